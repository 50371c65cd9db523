/-
  Epochs: which may be (epoch.Good, raddleref12.Good), how many slots (size).
-/
import Derived.Test.YtmacgmmjgdmleaaLead
import Derived.Deep.CutBlock
import Derived.Deep.QuietTactic
import Derived.BigQuiet
namespace Go.Proofs.Ytmacgmmjgdmleaa
open Go Go.RowKit
set_option linter.unusedSimpArgs false
set_option linter.unusedVariables false

/-- An epoch's cells: the config, the number, the first slot, the leaders. -/
def epC (c : Cfg) (number start : Int) (ao : Option Addr) (len cap : Nat) : List Value := c.cells ++ [.int .i64 number, .int .i64 start, .slice ao len cap]
theorem epC_length (c : Cfg) (number start : Int) (ao : Option Addr) (len cap : Nat) : (epC c number start ao len cap).length = 13 := rfl
def lastOf (l : List Int) (k : Nat) : Int := if k = 0 then -1 else l.getD (k - 1) 0
def stepOk (l : List Int) (hi : Int) (k : Nat) : Bool := decide (lastOf l k < l.getD k 0) && decide (l.getD k 0 < hi)
def riseTo (l : List Int) (hi : Int) (k : Nat) : Bool := (List.range k).all (stepOk l hi)
theorem riseTo_succ (l : List Int) (hi : Int) (k : Nat) : riseTo l hi (k + 1) = (riseTo l hi k && stepOk l hi k) := by
  simp [riseTo, List.range_succ, List.all_append]
theorem riseTo_bad (l : List Int) (hi : Int) (k n : Nat) (hk : k < n) (h : stepOk l hi k = false) : riseTo l hi n = false := by
  rw [riseTo, List.all_eq_false]
  exact ⟨k, List.mem_range.2 hk, by simp [h]⟩
theorem riseTo_ge (l : List Int) (hi : Int) : ∀ k, riseTo l hi k = true → ∀ j, j < k → (j : Int) ≤ l.getD j 0 ∧ l.getD j 0 < hi := by
  intro k h j
  have hs : ∀ i, i < k → lastOf l i < l.getD i 0 ∧ l.getD i 0 < hi := by
    intro i hi'
    have := List.all_eq_true.1 h i (List.mem_range.2 hi')
    simpa [stepOk] using this
  induction j with
  | zero =>
    intro hj
    have := hs 0 hj
    simp [lastOf] at this
    simp
    omega
  | succ j ih =>
    intro hj
    have h1 := ih (by omega)
    have h2 := hs (j + 1) hj
    simp [lastOf] at h2
    simp at h1 ⊢
    omega
theorem riseTo_len (l : List Int) (hi : Int) (h : riseTo l hi l.length = true) (h0 : 0 ≤ hi) : (l.length : Int) ≤ hi := by
  rcases Nat.eq_zero_or_pos l.length with h1 | h1
  · omega
  · have := riseTo_ge l hi _ h (l.length - 1) (by omega)
    omega
/-- May the epoch be? -/
def egood (c : Cfg) (number start : Int) (l : List Int) : Bool :=
  c.good && (decide (1 ≤ number) && (decide (number ≤ c.last) && (decide (l ≠ []) && (riseTo l c.nodes l.length && (decide (1 ≤ start) && decide (start ≤ 1099511627776 - l.length * c.slots))))))
theorem ep_info (c : Cfg) (number start : Int) (ao : Option Addr) (len cap : Nat) : (Try.prog.info? 124).map (·.size) = some (epC c number start ao len cap).toArray.size := by
  rw [List.size_toArray, epC_length]
  kernel_rfl
theorem rep_info (c : Cfg) (number start : Int) (ao : Option Addr) (len cap : Nat) : (Try.prog.info? 125).map (·.size) = some (epC c number start ao len cap).toArray.size := by
  rw [List.size_toArray, epC_length]
  kernel_rfl
theorem cfg_infoL (c : Cfg) : (Try.prog.info? 68).map (·.size) = some c.cells.length := by
  rw [Cfg.cells_length]
  kernel_rfl
section
variable {w : World} {b T : Nat} {c : Cfg} {number start : Int} {ao : Option Addr} {len cap : Nat} (h : w.heap[b]? = some (.cells (epC c number start ao len cap).toArray T (0, 0)))
include h
theorem ep_cfg : w.rangeAt b 0 c.cells := by
  intro j v hj
  have hlt := (List.getElem?_eq_some_iff.1 hj).1
  rw [blk_cell h, Nat.zero_add]
  simp only [List.getElem?_toArray]
  rw [epC, List.getElem?_append_left hlt]
  exact hj
theorem ep_cell (j : Nat) (hj : j < 10) : w.cell? ⟨b, j, none⟩ = some (.int .i64 (c.list.getD j 0)) := by
  have h2 : j < c.list.length := hj
  have := ep_cfg h j _ (show c.cells[j]? = some (.int .i64 (c.list.getD j 0)) by rw [Cfg.cells, iv_get h2]; simp [List.getD, h2])
  rw [Nat.zero_add] at this
  exact this
theorem ep_number : w.cell? ⟨b, 10, none⟩ = some (.int .i64 number) := by rw [blk_cell h]; rfl
theorem ep_start : w.cell? ⟨b, 11, none⟩ = some (.int .i64 start) := by rw [blk_cell h]; rfl
theorem ep_leaders : w.cell? ⟨b, 12, none⟩ = some (.slice ao len cap) := by rw [blk_cell h]; rfl
end
set_option maxRecDepth 100000 in
set_option maxHeartbeats 400000 in
theorem esize_any (c : Cfg) (number start : Int) (ao : Option Addr) (len cap : Nat) (w : World) (h1 : 0 ≤ c.slots) (h2 : c.slots ≤ 4) (h3 : len ≤ 1000) :
    Calls Try.prog 126 #[.agg (epC c number start ao len cap).toArray] w fun e w' => e = .returned (.int .i64 ((len : Int) * c.slots)) ∧ Same w w' := by
  have hinf := Lib.hid (ep_info c number start ao len cap)
  obtain ⟨s, hs⟩ : ∃ s, s = c.slots := ⟨_, rfl⟩
  rw [← hs] at h1 h2 ⊢
  replace hs := Lib.hid hs
  have hm1 : 0 ≤ (len : Int) * s := Int.mul_nonneg (by omega) h1
  have hm2 : (len : Int) * s ≤ 1000 * 4 := Int.mul_le_mul (by omega) h2 h1 (by omega)
  go_enter Try.func126, Try.ntmps126
  go_upto_region 1 with (refine box_row rfl _ _ rfl _ rfl hinf.out ?_; intro w0 hbx hs0; replace hs0 := Lib.hid hs0)
  have c1 : w0.cell? ⟨w.heap.size, 5, none⟩ = some (.int .i64 s) := by rw [hs.out]; exact ep_cell hbx 5 (by omega)
  have c2 := ep_leaders hbx
  clear hbx
  go_wp2
  go_ret
  exact ⟨rfl, hs0.out⟩
/-- The chain's ends. -/
theorem nil_len {l : List Int} : (decide (l ≠ [])) = decide (0 < l.length) := by cases l <;> simp
set_option maxRecDepth 100000 in
set_option maxHeartbeats 6400000 in
theorem egood_any (c : Cfg) (number start : Int) (ao : Option Addr) (len cap : Nat) (l : List Int) (w : World) (hsl : Sl w 1 ao len cap (iv l)) :
    Calls Try.prog 56 #[.agg (epC c number start ao len cap).toArray] w fun e w' => e = .returned (.bool (egood c number start l)) ∧ Same w w' := by
  have hinf := Lib.hid (ep_info c number start ao len cap)
  have hinfL := Lib.hid (cfg_infoL c)
  have hcg := fun w => cgood_any c w
  have he := c.err_eq
  obtain ⟨R, hR⟩ : ∃ R, R = egood c number start l := ⟨_, rfl⟩
  rw [← hR]
  unfold egood at hR
  obtain ⟨E, hE⟩ : ∃ E, E = c.err := ⟨_, rfl⟩
  rw [← hE] at hcg he
  have he2 : (E != 0) = !c.good := by rw [← he]; rfl
  obtain ⟨la, hla⟩ : ∃ x, x = c.last := ⟨_, rfl⟩
  rw [← hla] at hR
  have hll : l.length = len := by have := hsl.len; rw [iv_length] at this; omega
  have hcapl := hsl.cap
  have hmax := hsl.most
  unfold maxLen at hmax
  replace hla := Lib.hid hla
  replace hcg := Lib.hid hcg
  replace hsl := Lib.hid hsl
  clear hE
  rw [nil_len, hll] at hR
  cases hc : c.good
  · have hR2 : R = false := by rw [hR, hc]; rfl
    rw [hc] at he he2
    clear hR hc
    replace hR2 := Lib.hid hR2
    go_enter Try.func56, Try.ntmps56
    go_upto_region 1 with (refine box_row rfl _ _ rfl _ rfl hinf.out ?_; intro w0 hbx hs0; replace hs0 := Lib.hid hs0)
    have hrg := ep_cfg hbx
    have hbxl := blk_lt hbx
    have n1 := ep_number hbx
    have n2 : w0.cell? ⟨w.heap.size, 9, none⟩ = some (.int .i64 la) := by rw [hla.out]; exact ep_cell hbx 9 (by omega)
    have n3 := ep_leaders hbx
    replace hrg := Lib.hid hrg
    replace hbx := Lib.hid hbx
    replace n1 := Lib.hid n1
    replace n2 := Lib.hid n2
    replace n3 := Lib.hid n3
    go_wp2_with (refine load_mid rfl _ _ rfl w.heap.size 0 rfl c.cells _ hrg.out Try.underlying68 rfl hinfL.out ?_)
    refine (hcg.out _).mono ?_
    rintro e w1 ⟨rfl, hs1⟩
    have n1' := hs1.cell n1.out
    have n2' := hs1.cell n2.out
    have n3' := hs1.cell n3.out
    go_wp2
    go_ret
    exact ⟨by rw [hR2.out]; rfl, hs0.out.trans hs1⟩
  · rw [hc] at he he2
    by_cases h1 : 1 ≤ number
    · by_cases h2 : number ≤ la
      · by_cases h3 : 0 < len
        · rw [hc, decide_eq_true h1, decide_eq_true h2, decide_eq_true h3] at hR
          simp only [Bool.true_and] at hR
          have hcq : qgood c.nodes = true ∧ inside c.slots 1 4 = true := by
            rw [Cfg.good_eq] at hc
            simp only [Bool.and_eq_true] at hc
            exact ⟨hc.1, hc.2.1.1.1.1.2⟩
          obtain ⟨hq, hin⟩ := hcq
          obtain ⟨k1, k2, _⟩ := (qgood_iff _).1 hq
          obtain ⟨k3, k4⟩ := (inside_iff _ _ _).1 hin
          have hz : ((len : Int) == 0) = false := by simp; omega
          clear hc hq hin
          replace hR := Lib.hid hR
          go_enter Try.func56, Try.ntmps56
          go_upto_region 1 with (refine box_row rfl _ _ rfl _ rfl hinf.out ?_; intro w0 hbx hs0; replace hs0 := Lib.hid hs0)
          have hrg := ep_cfg hbx
          have hbxl := blk_lt hbx
          have n1 := ep_number hbx
          have n2 : w0.cell? ⟨w.heap.size, 9, none⟩ = some (.int .i64 la) := by rw [hla.out]; exact ep_cell hbx 9 (by omega)
          have n3 := ep_leaders hbx
          replace hrg := Lib.hid hrg
          replace hbx := Lib.hid hbx
          replace n1 := Lib.hid n1
          replace n2 := Lib.hid n2
          replace n3 := Lib.hid n3
          go_wp2_with (refine load_mid rfl _ _ rfl w.heap.size 0 rfl c.cells _ hrg.out Try.underlying68 rfl hinfL.out ?_)
          refine (hcg.out _).mono ?_
          rintro e w1 ⟨rfl, hs1⟩
          have n1' := hs1.cell n1.out
          have n2' := hs1.cell n2.out
          have n3' := hs1.cell n3.out
          have hbx1 := (hs1.block _ hbxl).trans hbx.out
          have hs01 := hs0.out.trans hs1
          have hsl1 := hsl.out.same hs01
          clear hs1 hs0 n1 n2 n3 hbx hrg hsl
          replace hbx1 := Lib.hid hbx1
          replace hs01 := Lib.hid hs01
          replace hsl1 := Lib.hid hsl1
          obtain ⟨N, hN⟩ : ∃ n, n = c.nodes := ⟨_, rfl⟩
          rw [← hN] at hR k1 k2
          have d0 : w1.cell? ⟨w.heap.size, 0, none⟩ = some (.int .i64 N) := by rw [hN]; exact ep_cell hbx1.out 0 (by omega)
          replace hN := Lib.hid hN
          replace d0 := Lib.hid d0
          replace n3' := Lib.hid n3'
          have hsc := fun k => riseTo_succ l N k
          have hbad := fun k hk => riseTo_bad l N k len hk
          replace hsc := Lib.hid hsc
          replace hbad := Lib.hid hbad
          have n3'' := n3'.out
          go_wp2
          clear n3'' n1' n2'
          go_loopw [32, 3] (fun i v wr => ∃ k : Nat, k ≤ len ∧ i = .int .i64 k ∧ v = .int .i64 (lastOf l k) ∧ riseTo l N k = true ∧ Same w1 wr) (fun i _ _ => len - (intOf i).toNat)
          case atStart => exact ⟨0, by omega, rfl, rfl, rfl, Same.refl⟩
          case round =>
            obtain ⟨k, hk, rfl, rfl, hri, hs⟩ := hrel
            by_cases hlt : k < len
            · obtain ⟨bk, off, rfl, _, hcell⟩ := hsl1.out.at (by intro h2; rw [iv, List.map_eq_nil_iff] at h2; rw [h2] at hll; simp at hll; omega)
              have cc := hs.cell (hcell k _ (iv_get (by omega)))
              have hx : l[k]'(by omega) = l.getD k 0 := by simp [List.getD, show k < l.length by omega]
              rw [hx] at cc
              have d0' := hs.cell d0.out
              have hsk := hsc.out k
              have hbk := hbad.out k hlt
              rw [hri, Bool.true_and] at hsk
              have hnx : lastOf l (k + 1) = l.getD k 0 := by simp [lastOf]
              have hst : stepOk l N k = (decide (lastOf l k < l.getD k 0) && decide (l.getD k 0 < N)) := rfl
              obtain ⟨x, hxe⟩ : ∃ x, x = l.getD k 0 := ⟨_, rfl⟩
              obtain ⟨y, hye⟩ : ∃ y, y = lastOf l k := ⟨_, rfl⟩
              rw [← hxe] at cc hnx hst
              rw [← hye] at hst ⊢
              have q0 : 0 ≤ (k : Int) := by omega
              have q1 : (k : Int) < (len : Int) := by omega
              clear hcell hx hxe hye hri
              replace hs := Lib.hid hs
              replace hnx := Lib.hid hnx
              by_cases h1 : y < x
              · by_cases h2 : x < N
                · rw [decide_eq_true h1, decide_eq_true h2] at hst
                  rw [hst] at hsk
                  clear hst hbk
                  replace hsk := Lib.hid hsk
                  go_wp2
                  go_roundw
                  case rel => exact ⟨k + 1, by omega, by go_num, by rw [hnx.out], hsk.out, hs.out⟩
                  case measure => simp [intOf]; omega
                · rw [decide_eq_true h1, decide_eq_false h2] at hst
                  have hR2 : R = false := by rw [hR.out, hbk hst]; rfl
                  clear hst hbk hsk
                  replace hR2 := Lib.hid hR2
                  go_wp2
                  go_ret
                  exact ⟨by rw [hR2.out]; rfl, hs01.out.trans hs.out⟩
              · rw [decide_eq_false h1] at hst
                have hR2 : R = false := by rw [hR.out, hbk hst]; rfl
                clear hst hbk hsk
                replace hR2 := Lib.hid hR2
                go_wp2
                go_ret
                exact ⟨by rw [hR2.out]; rfl, hs01.out.trans hs.out⟩
            · obtain rfl : k = len := by omega
              have hR2 := hR.out
              rw [hri, Bool.true_and] at hR2
              have hkN : (k : Int) ≤ N := by
                rw [← hll]
                exact riseTo_len l N (by rw [hll]; exact hri) (by omega)
              have hbx2 := (hs.block _ (blk_lt hbx1.out)).trans hbx1.out
              have hw2 := hs01.out.trans hs
              have e1 := ep_start hbx2
              have hbx2l := blk_lt hbx2
              have hsz := fun w => esize_any c number start ao k cap w (by omega) k4 (by omega)
              obtain ⟨s, hse⟩ : ∃ s, s = c.slots := ⟨_, rfl⟩
              rw [← hse] at hR2 hsz k3 k4
              have hm1 : 0 ≤ (k : Int) * s := Int.mul_nonneg (by omega) (by omega)
              have hm2 : (k : Int) * s ≤ 64 * 4 := Int.mul_le_mul (by omega) k4 (by omega) (by omega)
              obtain ⟨Z, hZ⟩ : ∃ Z, Z = (k : Int) * s := ⟨_, rfl⟩
              rw [← hZ] at hR2 hsz hm1 hm2
              clear hs hri hse hZ hs01 hbx1
              replace hbx2 := Lib.hid hbx2
              replace hw2 := Lib.hid hw2
              replace hsz := Lib.hid hsz
              replace hR2 := Lib.hid hR2
              replace e1 := Lib.hid e1
              replace hll := Lib.hid hll
              by_cases h4 : 1 ≤ start
              · have hR3 : R = decide (start ≤ 1099511627776 - Z) := by rw [hR2.out, decide_eq_true h4]; rfl
                have hwr : IntKind.i64.wrap (1099511627776 - Z) = 1099511627776 - Z := IntWalk.i64_in _ ⟨by omega, by omega⟩
                replace hR3 := Lib.hid hR3
                go_upto_region 11 with fail
                refine wp_region_tails (by kernel_rfl) [(48, 0), (49, 1), (50, 2), (51, 3), (52, 4), (53, 5), (54, 6), (55, 7), (56, 8), (57, 9)] Same (Same _) [isV (.pointer (some ⟨w.heap.size, 11, none⟩)), isV (.int .i64 start), isV (.bool true), isV (.bool true), isV (.pointer (some ⟨w.heap.size, 11, none⟩)), isV (.int .i64 start), isV (.agg (epC c number start ao k cap).toArray), isV (.int .i64 Z), isV (.int .i64 (1099511627776 - Z)), isV (.bool (decide (start ≤ 1099511627776 - Z)))] Same.refl.drew (fun _ _ h k => h.trans k) (by simp [isV_stable, isB_stable, isAny_stable]) (by decide) (l := [_, _, _, _, _, _, _, _, _, _]) rfl (by decide) (by kernel_rfl) ?_ ?_
                · refine ⟨?_, ?_, ?_, ?_, ?_, ?_, ?_, ?_, ?_, ?_, trivial⟩
                  all_goals (intro u wx hI hp; simp only [mkAct, List.foldl_cons, List.foldl_nil, List.setIfInBounds_toArray, List.set_cons_succ, List.set_cons_zero])
                  · -- operation 0
                    go_wp2
                    refine stq_v rfl Same.refl ?_
                    first | (simp only [mkAct, List.foldl_cons, List.foldl_nil, List.setIfInBounds_toArray, List.set_cons_succ, List.set_cons_zero, upd, reduceIte, Nat.reduceEqDiff, Nat.reduceAdd, str]; done) | (simp [mkAct, upd, str, *]; done)
                  · -- operation 1
                    obtain ⟨f0, -⟩ := hp
                    replace f0 : u 0 = (.pointer (some ⟨w.heap.size, 11, none⟩)) := f0
                    try simp only [f0, str]
                    have cx := hI.cell (e1.out)
                    go_wp2
                    refine stq_v rfl Same.refl ?_
                    first | (simp only [mkAct, List.foldl_cons, List.foldl_nil, List.setIfInBounds_toArray, List.set_cons_succ, List.set_cons_zero, upd, reduceIte, Nat.reduceEqDiff, Nat.reduceAdd, f0, str]; done) | (simp [mkAct, upd, f0, str, *]; done)
                  · -- operation 2
                    obtain ⟨f1, -⟩ := hp
                    replace f1 : u 1 = (.int .i64 start) := f1
                    try simp only [f1, str]
                    go_wp2
                    refine stq_v rfl Same.refl ?_
                    first | (simp only [mkAct, List.foldl_cons, List.foldl_nil, List.setIfInBounds_toArray, List.set_cons_succ, List.set_cons_zero, upd, reduceIte, Nat.reduceEqDiff, Nat.reduceAdd, f1, str]; done) | (simp [mkAct, upd, f1, str, *]; done)
                  · -- operation 3
                    obtain ⟨f2, -⟩ := hp
                    replace f2 : u 2 = (.bool true) := f2
                    try simp only [f2, str]
                    go_wp2
                    refine stq_v rfl Same.refl ?_
                    first | (simp only [mkAct, List.foldl_cons, List.foldl_nil, List.setIfInBounds_toArray, List.set_cons_succ, List.set_cons_zero, upd, reduceIte, Nat.reduceEqDiff, Nat.reduceAdd, f2, str]; done) | (simp [mkAct, upd, f2, str, *]; done)
                  · -- operation 4
                    obtain ⟨f3, -⟩ := hp
                    replace f3 : u 3 = (.bool true) := f3
                    try simp only [f3, str]
                    go_wp2
                    refine stq_v rfl Same.refl ?_
                    first | (simp only [mkAct, List.foldl_cons, List.foldl_nil, List.setIfInBounds_toArray, List.set_cons_succ, List.set_cons_zero, upd, reduceIte, Nat.reduceEqDiff, Nat.reduceAdd, f3, str]; done) | (simp [mkAct, upd, f3, str, *]; done)
                  · -- operation 5
                    obtain ⟨f4, f3, -⟩ := hp
                    replace f4 : u 4 = (.pointer (some ⟨w.heap.size, 11, none⟩)) := f4
                    replace f3 : u 3 = (.bool true) := f3
                    try simp only [f4, f3, str]
                    have cx := hI.cell (e1.out)
                    go_wp2
                    refine stq_v rfl Same.refl ?_
                    first | (simp only [mkAct, List.foldl_cons, List.foldl_nil, List.setIfInBounds_toArray, List.set_cons_succ, List.set_cons_zero, upd, reduceIte, Nat.reduceEqDiff, Nat.reduceAdd, f4, f3, str]; done) | (simp [mkAct, upd, f4, f3, str, *]; done)
                  · -- operation 6
                    obtain ⟨f3, -⟩ := hp
                    replace f3 : u 3 = (.bool true) := f3
                    try simp only [f3, str]
                    go_wp2_with (refine load_row rfl _ _ rfl w.heap.size rfl _ _ _ _ ((hI.block _ hbx2l).trans hbx2.out) Try.underlying124 rfl hinf.out ?_)
                    refine stq_v rfl Same.refl ?_
                    first | (simp only [mkAct, List.foldl_cons, List.foldl_nil, List.setIfInBounds_toArray, List.set_cons_succ, List.set_cons_zero, upd, reduceIte, Nat.reduceEqDiff, Nat.reduceAdd, f3, str]; done) | (simp [mkAct, upd, f3, str, *]; done)
                  · -- operation 7
                    obtain ⟨f6, -, f3, -⟩ := hp
                    replace f6 : u 6 = (.agg (epC c number start ao k cap).toArray) := f6
                    replace f3 : u 3 = (.bool true) := f3
                    try simp only [f6, f3, str]
                    go_wp2_with fail
                    refine (hsz.out _).mono ?_
                    rintro e w1 ⟨rfl, hs'⟩
                    go_wp2
                    refine stq_v rfl hs' ?_
                    first | (simp only [mkAct, List.foldl_cons, List.foldl_nil, List.setIfInBounds_toArray, List.set_cons_succ, List.set_cons_zero, upd, reduceIte, Nat.reduceEqDiff, Nat.reduceAdd, f6, f3, str]; done) | (simp [mkAct, upd, f6, f3, str, *]; done)
                  · -- operation 8
                    obtain ⟨f7, f3, -⟩ := hp
                    replace f7 : u 7 = (.int .i64 Z) := f7
                    replace f3 : u 3 = (.bool true) := f3
                    try simp only [f7, f3, str]
                    go_wp2
                    refine stq_v rfl Same.refl ?_
                    first | (simp only [mkAct, List.foldl_cons, List.foldl_nil, List.setIfInBounds_toArray, List.set_cons_succ, List.set_cons_zero, upd, reduceIte, Nat.reduceEqDiff, Nat.reduceAdd, f7, f3, str]; done) | (simp [mkAct, upd, f7, f3, str, *]; done)
                  · -- operation 9
                    obtain ⟨f5, f8, f3, -⟩ := hp
                    replace f5 : u 5 = (.int .i64 start) := f5
                    replace f8 : u 8 = (.int .i64 (1099511627776 - Z)) := f8
                    replace f3 : u 3 = (.bool true) := f3
                    try simp only [f5, f8, f3, str]
                    go_wp2
                    refine stq_v rfl Same.refl ?_
                    first | (simp only [mkAct, List.foldl_cons, List.foldl_nil, List.setIfInBounds_toArray, List.set_cons_succ, List.set_cons_zero, upd, reduceIte, Nat.reduceEqDiff, Nat.reduceAdd, f5, f8, f3, str]; done) | (simp [mkAct, upd, f5, f8, f3, str, *]; done)
                · intro u wx hI hR
                  obtain ⟨r0, r1, r2, r3, r4, r5, r6, r7, r8, r9, -⟩ := hR
                  replace r0 : u 0 = (.pointer (some ⟨w.heap.size, 11, none⟩)) := r0
                  replace r1 : u 1 = (.int .i64 start) := r1
                  replace r2 : u 2 = (.bool true) := r2
                  replace r3 : u 3 = (.bool true) := r3
                  replace r4 : u 4 = (.pointer (some ⟨w.heap.size, 11, none⟩)) := r4
                  replace r5 : u 5 = (.int .i64 start) := r5
                  replace r6 : u 6 = (.agg (epC c number start ao k cap).toArray) := r6
                  replace r7 : u 7 = (.int .i64 Z) := r7
                  replace r8 : u 8 = (.int .i64 (1099511627776 - Z)) := r8
                  replace r9 : u 9 = (.bool (decide (start ≤ 1099511627776 - Z))) := r9
                  simp only [mkAct, List.foldl_cons, List.foldl_nil, List.setIfInBounds_toArray, List.set_cons_succ, List.set_cons_zero]
                  try simp only [str, r0, r1, r2, r3, r4, r5, r6, r7, r8, r9]
                  go_wp2
                  go_ret
                  exact ⟨by rw [hR3.out]; rfl, hw2.out.trans hI⟩
              · have hR3 : R = false := by rw [hR2.out, decide_eq_false h4]; rfl
                replace hR3 := Lib.hid hR3
                go_upto_region 11 with fail
                refine wp_region_tails (by kernel_rfl) [(48, 0), (49, 1), (50, 2), (51, 3), (52, 4), (53, 5), (54, 6), (55, 7), (56, 8), (57, 9)] Same (Same _) [isV (.pointer (some ⟨w.heap.size, 11, none⟩)), isV (.int .i64 start), isV (.bool false), isV (.bool false), isV undef, isV undef, isV undef, isV undef, isV undef, isV undef] Same.refl.drew (fun _ _ h k => h.trans k) (by simp [isV_stable, isB_stable, isAny_stable]) (by decide) (l := [_, _, _, _, _, _, _, _, _, _]) rfl (by decide) (by kernel_rfl) ?_ ?_
                · refine ⟨?_, ?_, ?_, ?_, ?_, ?_, ?_, ?_, ?_, ?_, trivial⟩
                  all_goals (intro u wx hI hp; simp only [mkAct, List.foldl_cons, List.foldl_nil, List.setIfInBounds_toArray, List.set_cons_succ, List.set_cons_zero])
                  · -- operation 0
                    go_wp2
                    refine stq_v rfl Same.refl ?_
                    first | (simp only [mkAct, List.foldl_cons, List.foldl_nil, List.setIfInBounds_toArray, List.set_cons_succ, List.set_cons_zero, upd, reduceIte, Nat.reduceEqDiff, Nat.reduceAdd, str]; done) | (simp [mkAct, upd, str, *]; done)
                  · -- operation 1
                    obtain ⟨f0, -⟩ := hp
                    replace f0 : u 0 = (.pointer (some ⟨w.heap.size, 11, none⟩)) := f0
                    try simp only [f0, str]
                    have cx := hI.cell (e1.out)
                    go_wp2
                    refine stq_v rfl Same.refl ?_
                    first | (simp only [mkAct, List.foldl_cons, List.foldl_nil, List.setIfInBounds_toArray, List.set_cons_succ, List.set_cons_zero, upd, reduceIte, Nat.reduceEqDiff, Nat.reduceAdd, f0, str]; done) | (simp [mkAct, upd, f0, str, *]; done)
                  · -- operation 2
                    obtain ⟨f1, -⟩ := hp
                    replace f1 : u 1 = (.int .i64 start) := f1
                    try simp only [f1, str]
                    go_wp2
                    refine stq_v rfl Same.refl ?_
                    first | (simp only [mkAct, List.foldl_cons, List.foldl_nil, List.setIfInBounds_toArray, List.set_cons_succ, List.set_cons_zero, upd, reduceIte, Nat.reduceEqDiff, Nat.reduceAdd, f1, str]; done) | (simp [mkAct, upd, f1, str, *]; done)
                  · -- operation 3
                    obtain ⟨f2, -⟩ := hp
                    replace f2 : u 2 = (.bool false) := f2
                    try simp only [f2, str]
                    go_wp2
                    refine stq_v rfl Same.refl ?_
                    first | (simp only [mkAct, List.foldl_cons, List.foldl_nil, List.setIfInBounds_toArray, List.set_cons_succ, List.set_cons_zero, upd, reduceIte, Nat.reduceEqDiff, Nat.reduceAdd, f2, str]; done) | (simp [mkAct, upd, f2, str, *]; done)
                  · -- operation 4
                    obtain ⟨f3, -⟩ := hp
                    replace f3 : u 3 = (.bool false) := f3
                    try simp only [f3, str]
                    go_wp2
                    refine stq_v rfl Same.refl ?_
                    first | (simp only [mkAct, List.foldl_cons, List.foldl_nil, List.setIfInBounds_toArray, List.set_cons_succ, List.set_cons_zero, upd, reduceIte, Nat.reduceEqDiff, Nat.reduceAdd, f3, str]; done) | (simp [mkAct, upd, f3, str, *]; done)
                  · -- operation 5
                    obtain ⟨f4, f3, -⟩ := hp
                    replace f4 : u 4 = undef := f4
                    replace f3 : u 3 = (.bool false) := f3
                    try simp only [f4, f3, str]
                    go_wp2
                    refine stq_v rfl Same.refl ?_
                    first | (simp only [mkAct, List.foldl_cons, List.foldl_nil, List.setIfInBounds_toArray, List.set_cons_succ, List.set_cons_zero, upd, reduceIte, Nat.reduceEqDiff, Nat.reduceAdd, f4, f3, str]; done) | (simp [mkAct, upd, f4, f3, str, *]; done)
                  · -- operation 6
                    obtain ⟨f3, -⟩ := hp
                    replace f3 : u 3 = (.bool false) := f3
                    try simp only [f3, str]
                    go_wp2
                    refine stq_v rfl Same.refl ?_
                    first | (simp only [mkAct, List.foldl_cons, List.foldl_nil, List.setIfInBounds_toArray, List.set_cons_succ, List.set_cons_zero, upd, reduceIte, Nat.reduceEqDiff, Nat.reduceAdd, f3, str]; done) | (simp [mkAct, upd, f3, str, *]; done)
                  · -- operation 7
                    obtain ⟨f6, -, f3, -⟩ := hp
                    replace f6 : u 6 = undef := f6
                    replace f3 : u 3 = (.bool false) := f3
                    try simp only [f6, f3, str]
                    go_wp2
                    refine stq_v rfl Same.refl ?_
                    first | (simp only [mkAct, List.foldl_cons, List.foldl_nil, List.setIfInBounds_toArray, List.set_cons_succ, List.set_cons_zero, upd, reduceIte, Nat.reduceEqDiff, Nat.reduceAdd, f6, f3, str]; done) | (simp [mkAct, upd, f6, f3, str, *]; done)
                  · -- operation 8
                    obtain ⟨f7, f3, -⟩ := hp
                    replace f7 : u 7 = undef := f7
                    replace f3 : u 3 = (.bool false) := f3
                    try simp only [f7, f3, str]
                    go_wp2
                    refine stq_v rfl Same.refl ?_
                    first | (simp only [mkAct, List.foldl_cons, List.foldl_nil, List.setIfInBounds_toArray, List.set_cons_succ, List.set_cons_zero, upd, reduceIte, Nat.reduceEqDiff, Nat.reduceAdd, f7, f3, str]; done) | (simp [mkAct, upd, f7, f3, str, *]; done)
                  · -- operation 9
                    obtain ⟨f5, f8, f3, -⟩ := hp
                    replace f5 : u 5 = undef := f5
                    replace f8 : u 8 = undef := f8
                    replace f3 : u 3 = (.bool false) := f3
                    try simp only [f5, f8, f3, str]
                    go_wp2
                    refine stq_v rfl Same.refl ?_
                    first | (simp only [mkAct, List.foldl_cons, List.foldl_nil, List.setIfInBounds_toArray, List.set_cons_succ, List.set_cons_zero, upd, reduceIte, Nat.reduceEqDiff, Nat.reduceAdd, f5, f8, f3, str]; done) | (simp [mkAct, upd, f5, f8, f3, str, *]; done)
                · intro u wx hI hR
                  obtain ⟨r0, r1, r2, r3, r4, r5, r6, r7, r8, r9, -⟩ := hR
                  replace r0 : u 0 = (.pointer (some ⟨w.heap.size, 11, none⟩)) := r0
                  replace r1 : u 1 = (.int .i64 start) := r1
                  replace r2 : u 2 = (.bool false) := r2
                  replace r3 : u 3 = (.bool false) := r3
                  replace r4 : u 4 = undef := r4
                  replace r5 : u 5 = undef := r5
                  replace r6 : u 6 = undef := r6
                  replace r7 : u 7 = undef := r7
                  replace r8 : u 8 = undef := r8
                  replace r9 : u 9 = undef := r9
                  simp only [mkAct, List.foldl_cons, List.foldl_nil, List.setIfInBounds_toArray, List.set_cons_succ, List.set_cons_zero]
                  try simp only [str, r0, r1, r2, r3, r4, r5, r6, r7, r8, r9]
                  go_wp2
                  go_ret
                  exact ⟨by rw [hR3.out]; rfl, hw2.out.trans hI⟩
        · have hR2 : R = false := by rw [hR, hc, decide_eq_false h3]; simp
          obtain rfl : len = 0 := by omega
          clear hR hc
          replace hR2 := Lib.hid hR2
          go_enter Try.func56, Try.ntmps56
          go_upto_region 1 with (refine box_row rfl _ _ rfl _ rfl hinf.out ?_; intro w0 hbx hs0; replace hs0 := Lib.hid hs0)
          have hrg := ep_cfg hbx
          have hbxl := blk_lt hbx
          have n1 := ep_number hbx
          have n2 : w0.cell? ⟨w.heap.size, 9, none⟩ = some (.int .i64 la) := by rw [hla.out]; exact ep_cell hbx 9 (by omega)
          have n3 := ep_leaders hbx
          replace hrg := Lib.hid hrg
          replace hbx := Lib.hid hbx
          replace n1 := Lib.hid n1
          replace n2 := Lib.hid n2
          replace n3 := Lib.hid n3
          go_wp2_with (refine load_mid rfl _ _ rfl w.heap.size 0 rfl c.cells _ hrg.out Try.underlying68 rfl hinfL.out ?_)
          refine (hcg.out _).mono ?_
          rintro e w1 ⟨rfl, hs1⟩
          have n1' := hs1.cell n1.out
          have n2' := hs1.cell n2.out
          have n3' := hs1.cell n3.out
          go_wp2
          go_ret
          exact ⟨by rw [hR2.out]; rfl, hs0.out.trans hs1⟩
      · have hR2 : R = false := by rw [hR, hc, decide_eq_false h2]; simp
        clear hR hc
        replace hR2 := Lib.hid hR2
        go_enter Try.func56, Try.ntmps56
        go_upto_region 1 with (refine box_row rfl _ _ rfl _ rfl hinf.out ?_; intro w0 hbx hs0; replace hs0 := Lib.hid hs0)
        have hrg := ep_cfg hbx
        have hbxl := blk_lt hbx
        have n1 := ep_number hbx
        have n2 : w0.cell? ⟨w.heap.size, 9, none⟩ = some (.int .i64 la) := by rw [hla.out]; exact ep_cell hbx 9 (by omega)
        have n3 := ep_leaders hbx
        replace hrg := Lib.hid hrg
        replace hbx := Lib.hid hbx
        replace n1 := Lib.hid n1
        replace n2 := Lib.hid n2
        replace n3 := Lib.hid n3
        go_wp2_with (refine load_mid rfl _ _ rfl w.heap.size 0 rfl c.cells _ hrg.out Try.underlying68 rfl hinfL.out ?_)
        refine (hcg.out _).mono ?_
        rintro e w1 ⟨rfl, hs1⟩
        have n1' := hs1.cell n1.out
        have n2' := hs1.cell n2.out
        have n3' := hs1.cell n3.out
        go_wp2
        go_ret
        exact ⟨by rw [hR2.out]; rfl, hs0.out.trans hs1⟩
    · have hR2 : R = false := by rw [hR, hc, decide_eq_false h1]; simp
      clear hR hc
      replace hR2 := Lib.hid hR2
      go_enter Try.func56, Try.ntmps56
      go_upto_region 1 with (refine box_row rfl _ _ rfl _ rfl hinf.out ?_; intro w0 hbx hs0; replace hs0 := Lib.hid hs0)
      have hrg := ep_cfg hbx
      have hbxl := blk_lt hbx
      have n1 := ep_number hbx
      have n2 : w0.cell? ⟨w.heap.size, 9, none⟩ = some (.int .i64 la) := by rw [hla.out]; exact ep_cell hbx 9 (by omega)
      have n3 := ep_leaders hbx
      replace hrg := Lib.hid hrg
      replace hbx := Lib.hid hbx
      replace n1 := Lib.hid n1
      replace n2 := Lib.hid n2
      replace n3 := Lib.hid n3
      go_wp2_with (refine load_mid rfl _ _ rfl w.heap.size 0 rfl c.cells _ hrg.out Try.underlying68 rfl hinfL.out ?_)
      refine (hcg.out _).mono ?_
      rintro e w1 ⟨rfl, hs1⟩
      have n1' := hs1.cell n1.out
      have n2' := hs1.cell n2.out
      have n3' := hs1.cell n3.out
      go_wp2
      go_ret
      exact ⟨by rw [hR2.out]; rfl, hs0.out.trans hs1⟩
set_option maxRecDepth 100000 in
set_option maxHeartbeats 6400000 in
theorem regood_any (c : Cfg) (number start : Int) (ao : Option Addr) (len cap : Nat) (l : List Int) (w : World) (hsl : Sl w 1 ao len cap (iv l)) :
    Calls Try.prog 57 #[.agg (epC c number start ao len cap).toArray] w fun e w' => e = .returned (.bool (egood c number start l)) ∧ Same w w' := by
  have hinf := Lib.hid (rep_info c number start ao len cap)
  have hinfL := Lib.hid (cfg_infoL c)
  have hcg := fun w => rcgood_any c w
  have he := c.err_eq
  obtain ⟨R, hR⟩ : ∃ R, R = egood c number start l := ⟨_, rfl⟩
  rw [← hR]
  unfold egood at hR
  obtain ⟨E, hE⟩ : ∃ E, E = c.err := ⟨_, rfl⟩
  rw [← hE] at hcg he
  have he2 : (E != 0) = !c.good := by rw [← he]; rfl
  obtain ⟨la, hla⟩ : ∃ x, x = c.last := ⟨_, rfl⟩
  rw [← hla] at hR
  have hll : l.length = len := by have := hsl.len; rw [iv_length] at this; omega
  have hcapl := hsl.cap
  have hmax := hsl.most
  unfold maxLen at hmax
  replace hla := Lib.hid hla
  replace hcg := Lib.hid hcg
  replace hsl := Lib.hid hsl
  clear hE
  rw [nil_len, hll] at hR
  cases hc : c.good
  · have hR2 : R = false := by rw [hR, hc]; rfl
    rw [hc] at he he2
    clear hR hc
    replace hR2 := Lib.hid hR2
    go_enter Try.func57, Try.ntmps57
    go_upto_region 1 with (refine box_row rfl _ _ rfl _ rfl hinf.out ?_; intro w0 hbx hs0; replace hs0 := Lib.hid hs0)
    have hrg := ep_cfg hbx
    have hbxl := blk_lt hbx
    have n1 := ep_number hbx
    have n2 : w0.cell? ⟨w.heap.size, 9, none⟩ = some (.int .i64 la) := by rw [hla.out]; exact ep_cell hbx 9 (by omega)
    have n3 := ep_leaders hbx
    replace hrg := Lib.hid hrg
    replace hbx := Lib.hid hbx
    replace n1 := Lib.hid n1
    replace n2 := Lib.hid n2
    replace n3 := Lib.hid n3
    go_wp2_with (refine load_mid rfl _ _ rfl w.heap.size 0 rfl c.cells _ hrg.out Try.underlying68 rfl hinfL.out ?_)
    refine (hcg.out _).mono ?_
    rintro e w1 ⟨rfl, hs1⟩
    have n1' := hs1.cell n1.out
    have n2' := hs1.cell n2.out
    have n3' := hs1.cell n3.out
    go_wp2
    go_ret
    exact ⟨by rw [hR2.out]; rfl, hs0.out.trans hs1⟩
  · rw [hc] at he he2
    by_cases h1 : 1 ≤ number
    · by_cases h2 : number ≤ la
      · by_cases h3 : 0 < len
        · rw [hc, decide_eq_true h1, decide_eq_true h2, decide_eq_true h3] at hR
          simp only [Bool.true_and] at hR
          have hcq : qgood c.nodes = true ∧ inside c.slots 1 4 = true := by
            rw [Cfg.good_eq] at hc
            simp only [Bool.and_eq_true] at hc
            exact ⟨hc.1, hc.2.1.1.1.1.2⟩
          obtain ⟨hq, hin⟩ := hcq
          obtain ⟨k1, k2, _⟩ := (qgood_iff _).1 hq
          obtain ⟨k3, k4⟩ := (inside_iff _ _ _).1 hin
          have hz : ((len : Int) == 0) = false := by simp; omega
          clear hc hq hin
          replace hR := Lib.hid hR
          go_enter Try.func57, Try.ntmps57
          go_upto_region 1 with (refine box_row rfl _ _ rfl _ rfl hinf.out ?_; intro w0 hbx hs0; replace hs0 := Lib.hid hs0)
          have hrg := ep_cfg hbx
          have hbxl := blk_lt hbx
          have n1 := ep_number hbx
          have n2 : w0.cell? ⟨w.heap.size, 9, none⟩ = some (.int .i64 la) := by rw [hla.out]; exact ep_cell hbx 9 (by omega)
          have n3 := ep_leaders hbx
          replace hrg := Lib.hid hrg
          replace hbx := Lib.hid hbx
          replace n1 := Lib.hid n1
          replace n2 := Lib.hid n2
          replace n3 := Lib.hid n3
          go_wp2_with (refine load_mid rfl _ _ rfl w.heap.size 0 rfl c.cells _ hrg.out Try.underlying68 rfl hinfL.out ?_)
          refine (hcg.out _).mono ?_
          rintro e w1 ⟨rfl, hs1⟩
          have n1' := hs1.cell n1.out
          have n2' := hs1.cell n2.out
          have n3' := hs1.cell n3.out
          have hbx1 := (hs1.block _ hbxl).trans hbx.out
          have hs01 := hs0.out.trans hs1
          have hsl1 := hsl.out.same hs01
          clear hs1 hs0 n1 n2 n3 hbx hrg hsl
          replace hbx1 := Lib.hid hbx1
          replace hs01 := Lib.hid hs01
          replace hsl1 := Lib.hid hsl1
          obtain ⟨N, hN⟩ : ∃ n, n = c.nodes := ⟨_, rfl⟩
          rw [← hN] at hR k1 k2
          have d0 : w1.cell? ⟨w.heap.size, 0, none⟩ = some (.int .i64 N) := by rw [hN]; exact ep_cell hbx1.out 0 (by omega)
          replace hN := Lib.hid hN
          replace d0 := Lib.hid d0
          replace n3' := Lib.hid n3'
          have hsc := fun k => riseTo_succ l N k
          have hbad := fun k hk => riseTo_bad l N k len hk
          replace hsc := Lib.hid hsc
          replace hbad := Lib.hid hbad
          have n3'' := n3'.out
          go_wp2
          clear n3'' n1' n2'
          go_loopw [3] (fun i wr => ∃ k : Nat, k ≤ len ∧ i = .int .i64 k ∧ riseTo l N k = true ∧ Same w1 wr) (fun i _ => len - (intOf i).toNat)
          case atStart => exact ⟨0, by omega, rfl, rfl, Same.refl⟩
          case round =>
            obtain ⟨k, hk, rfl, hri, hs⟩ := hrel
            have n3r := hs.cell n3'.out
            by_cases hlt : k < len
            · obtain ⟨bk, off, rfl, _, hcell⟩ := hsl1.out.at (by intro h2; rw [iv, List.map_eq_nil_iff] at h2; rw [h2] at hll; simp at hll; omega)
              have cc := hs.cell (hcell k _ (iv_get (by omega)))
              have hx : l[k]'(by omega) = l.getD k 0 := by simp [List.getD, show k < l.length by omega]
              rw [hx] at cc
              have d0' := hs.cell d0.out
              have hsk := hsc.out k
              have hbk := hbad.out k hlt
              have hge := riseTo_ge l N k hri
              rw [hri, Bool.true_and] at hsk
              have hst : stepOk l N k = (decide (lastOf l k < l.getD k 0) && decide (l.getD k 0 < N)) := rfl
              have q0 : 0 ≤ (k : Int) := by omega
              have q1 : (k : Int) < (len : Int) := by omega
              have hlo : -1 ≤ lastOf l k := by
                unfold lastOf
                split
                · omega
                · have := (hge (k - 1) (by omega)).1
                  omega
              obtain ⟨x, hxe⟩ : ∃ x, x = l.getD k 0 := ⟨_, rfl⟩
              rw [← hxe] at hst cc
              by_cases hA : 0 ≤ x
              · by_cases hB : x < N
                · by_cases hk0 : k = 0
                  · subst hk0
                    rw [show lastOf l 0 = -1 from rfl, decide_eq_true (show -1 < x by omega), decide_eq_true hB] at hst
                    rw [hst] at hsk
                    rw [Nat.add_zero] at cc
                    clear hst hbk hcell hx hxe hri hge hlo
                    replace hs := Lib.hid hs
                    replace cc := Lib.hid cc
                    replace d0' := Lib.hid d0'
                    go_upto_region 6 with fail
                    replace n3r := Lib.hid n3r
                    go_cut [68] (fun v wx => v = .bool false ∧ Same wr wx)
                    case first =>
                      refine wp_region_facts (by kernel_rfl) [(34, 0), (35, 1), (36, 2), (37, 3), (38, 4), (39, 5), (40, 6), (41, 7), (42, 8), (43, 9), (44, 10), (45, 11), (46, 12), (47, 13), (48, 14), (49, 15), (50, 16), (51, 17), (52, 18), (53, 19), (54, 20), (55, 21), (56, 22), (57, 23), (58, 24), (59, 25), (60, 26), (61, 27), (62, 28), (63, 29), (64, 30), (65, 31), (66, 32), (67, 33), (68, 34)] Same (Same _) [isV (.pointer (some ⟨w.heap.size, 12, none⟩)), isV (.slice (some ⟨bk, off, none⟩) len cap), isV (.int .i64 0), isV (.pointer (some ⟨bk, off, none⟩)), isV (.int .i64 x), isV (.bool false), isV (.bool false), isV (.pointer (some ⟨w.heap.size, 12, none⟩)), isV (.slice (some ⟨bk, off, none⟩) len cap), isV (.int .i64 0), isV (.pointer (some ⟨bk, off, none⟩)), isV (.int .i64 x), isV (.pointer (some ⟨w.heap.size, 0, none⟩)), isV (.pointer (some ⟨w.heap.size, 0, none⟩)), isV (.int .i64 N), isV (.bool false), isV (.bool false), isV (.bool false), isV (.int .i64 0), isV (.bool false), isV (.bool false), isV undef, isV undef, isV undef, isV undef, isV undef, isV undef, isV undef, isV undef, isV undef, isV undef, isV undef, isV undef, isV (.bool false), isV (.bool false)] Same.refl.drew (fun _ _ h k => h.trans k) (by simp [isV_stable, isB_stable, isAny_stable]) (by decide) (by decide) ?_ ?_
                      · refine ⟨?_, ?_, ?_, ?_, ?_, ?_, ?_, ?_, ?_, ?_, ?_, ?_, ?_, ?_, ?_, ?_, ?_, ?_, ?_, ?_, ?_, ?_, ?_, ?_, ?_, ?_, ?_, ?_, ?_, ?_, ?_, ?_, ?_, ?_, ?_, trivial⟩
                        all_goals (intro u wx hI hp; simp only [mkAct, List.foldl_cons, List.foldl_nil, List.setIfInBounds_toArray, List.set_cons_succ, List.set_cons_zero])
                        · -- operation 0
                          go_wp2
                          refine stq_v rfl Same.refl ?_
                          first | (simp only [mkAct, List.foldl_cons, List.foldl_nil, List.setIfInBounds_toArray, List.set_cons_succ, List.set_cons_zero, upd, reduceIte, Nat.reduceEqDiff, Nat.reduceAdd, str]; done) | (simp [mkAct, upd, str, *]; done)
                        · -- operation 1
                          obtain ⟨f0, -⟩ := hp
                          replace f0 : u 0 = (.pointer (some ⟨w.heap.size, 12, none⟩)) := f0
                          try simp only [f0, str]
                          have cx := hI.cell (n3r.out)
                          go_wp2
                          refine stq_v rfl Same.refl ?_
                          first | (simp only [mkAct, List.foldl_cons, List.foldl_nil, List.setIfInBounds_toArray, List.set_cons_succ, List.set_cons_zero, upd, reduceIte, Nat.reduceEqDiff, Nat.reduceAdd, f0, str]; done) | (simp [mkAct, upd, f0, str, *]; done)
                        · -- operation 2
                          go_wp2
                          refine stq_v rfl Same.refl ?_
                          first | (simp only [mkAct, List.foldl_cons, List.foldl_nil, List.setIfInBounds_toArray, List.set_cons_succ, List.set_cons_zero, upd, reduceIte, Nat.reduceEqDiff, Nat.reduceAdd, str]; done) | (simp [mkAct, upd, str, *]; done)
                        · -- operation 3
                          obtain ⟨f1, f2, -⟩ := hp
                          replace f1 : u 1 = (.slice (some ⟨bk, off, none⟩) len cap) := f1
                          replace f2 : u 2 = (.int .i64 0) := f2
                          try simp only [f1, f2, str]
                          go_wp2
                          refine stq_v rfl Same.refl ?_
                          first | (simp only [mkAct, List.foldl_cons, List.foldl_nil, List.setIfInBounds_toArray, List.set_cons_succ, List.set_cons_zero, upd, reduceIte, Nat.reduceEqDiff, Nat.reduceAdd, f1, f2, str]; done) | (simp [mkAct, upd, f1, f2, str, *]; done)
                        · -- operation 4
                          obtain ⟨f3, -⟩ := hp
                          replace f3 : u 3 = (.pointer (some ⟨bk, off, none⟩)) := f3
                          try simp only [f3, str]
                          have cx := hI.cell (cc.out)
                          go_wp2
                          refine stq_v rfl Same.refl ?_
                          first | (simp only [mkAct, List.foldl_cons, List.foldl_nil, List.setIfInBounds_toArray, List.set_cons_succ, List.set_cons_zero, upd, reduceIte, Nat.reduceEqDiff, Nat.reduceAdd, f3, str]; done) | (simp [mkAct, upd, f3, str, *]; done)
                        · -- operation 5
                          obtain ⟨f4, -⟩ := hp
                          replace f4 : u 4 = (.int .i64 x) := f4
                          try simp only [f4, str]
                          go_wp2
                          refine stq_v rfl Same.refl ?_
                          first | (simp only [mkAct, List.foldl_cons, List.foldl_nil, List.setIfInBounds_toArray, List.set_cons_succ, List.set_cons_zero, upd, reduceIte, Nat.reduceEqDiff, Nat.reduceAdd, f4, str]; done) | (simp [mkAct, upd, f4, str, *]; done)
                        · -- operation 6
                          obtain ⟨f5, -⟩ := hp
                          replace f5 : u 5 = (.bool false) := f5
                          try simp only [f5, str]
                          go_wp2
                          refine stq_v rfl Same.refl ?_
                          first | (simp only [mkAct, List.foldl_cons, List.foldl_nil, List.setIfInBounds_toArray, List.set_cons_succ, List.set_cons_zero, upd, reduceIte, Nat.reduceEqDiff, Nat.reduceAdd, f5, str]; done) | (simp [mkAct, upd, f5, str, *]; done)
                        · -- operation 7
                          obtain ⟨f6, -⟩ := hp
                          replace f6 : u 6 = (.bool false) := f6
                          try simp only [f6, str]
                          go_wp2
                          refine stq_v rfl Same.refl ?_
                          first | (simp only [mkAct, List.foldl_cons, List.foldl_nil, List.setIfInBounds_toArray, List.set_cons_succ, List.set_cons_zero, upd, reduceIte, Nat.reduceEqDiff, Nat.reduceAdd, f6, str]; done) | (simp [mkAct, upd, f6, str, *]; done)
                        · -- operation 8
                          obtain ⟨f7, f6, -⟩ := hp
                          replace f7 : u 7 = (.pointer (some ⟨w.heap.size, 12, none⟩)) := f7
                          replace f6 : u 6 = (.bool false) := f6
                          try simp only [f7, f6, str]
                          have cx := hI.cell (n3r.out)
                          go_wp2
                          refine stq_v rfl Same.refl ?_
                          first | (simp only [mkAct, List.foldl_cons, List.foldl_nil, List.setIfInBounds_toArray, List.set_cons_succ, List.set_cons_zero, upd, reduceIte, Nat.reduceEqDiff, Nat.reduceAdd, f7, f6, str]; done) | (simp [mkAct, upd, f7, f6, str, *]; done)
                        · -- operation 9
                          obtain ⟨f6, -⟩ := hp
                          replace f6 : u 6 = (.bool false) := f6
                          try simp only [f6, str]
                          go_wp2
                          refine stq_v rfl Same.refl ?_
                          first | (simp only [mkAct, List.foldl_cons, List.foldl_nil, List.setIfInBounds_toArray, List.set_cons_succ, List.set_cons_zero, upd, reduceIte, Nat.reduceEqDiff, Nat.reduceAdd, f6, str]; done) | (simp [mkAct, upd, f6, str, *]; done)
                        · -- operation 10
                          obtain ⟨f8, f9, f6, -⟩ := hp
                          replace f8 : u 8 = (.slice (some ⟨bk, off, none⟩) len cap) := f8
                          replace f9 : u 9 = (.int .i64 0) := f9
                          replace f6 : u 6 = (.bool false) := f6
                          try simp only [f8, f9, f6, str]
                          go_wp2
                          refine stq_v rfl Same.refl ?_
                          first | (simp only [mkAct, List.foldl_cons, List.foldl_nil, List.setIfInBounds_toArray, List.set_cons_succ, List.set_cons_zero, upd, reduceIte, Nat.reduceEqDiff, Nat.reduceAdd, f8, f9, f6, str]; done) | (simp [mkAct, upd, f8, f9, f6, str, *]; done)
                        · -- operation 11
                          obtain ⟨f10, f6, -⟩ := hp
                          replace f10 : u 10 = (.pointer (some ⟨bk, off, none⟩)) := f10
                          replace f6 : u 6 = (.bool false) := f6
                          try simp only [f10, f6, str]
                          have cx := hI.cell (cc.out)
                          go_wp2
                          refine stq_v rfl Same.refl ?_
                          first | (simp only [mkAct, List.foldl_cons, List.foldl_nil, List.setIfInBounds_toArray, List.set_cons_succ, List.set_cons_zero, upd, reduceIte, Nat.reduceEqDiff, Nat.reduceAdd, f10, f6, str]; done) | (simp [mkAct, upd, f10, f6, str, *]; done)
                        · -- operation 12
                          obtain ⟨f6, -⟩ := hp
                          replace f6 : u 6 = (.bool false) := f6
                          try simp only [f6, str]
                          go_wp2
                          refine stq_v rfl Same.refl ?_
                          first | (simp only [mkAct, List.foldl_cons, List.foldl_nil, List.setIfInBounds_toArray, List.set_cons_succ, List.set_cons_zero, upd, reduceIte, Nat.reduceEqDiff, Nat.reduceAdd, f6, str]; done) | (simp [mkAct, upd, f6, str, *]; done)
                        · -- operation 13
                          obtain ⟨f12, f6, -⟩ := hp
                          replace f12 : u 12 = (.pointer (some ⟨w.heap.size, 0, none⟩)) := f12
                          replace f6 : u 6 = (.bool false) := f6
                          try simp only [f12, f6, str]
                          go_wp2
                          refine stq_v rfl Same.refl ?_
                          first | (simp only [mkAct, List.foldl_cons, List.foldl_nil, List.setIfInBounds_toArray, List.set_cons_succ, List.set_cons_zero, upd, reduceIte, Nat.reduceEqDiff, Nat.reduceAdd, f12, f6, str]; done) | (simp [mkAct, upd, f12, f6, str, *]; done)
                        · -- operation 14
                          obtain ⟨f13, f6, -⟩ := hp
                          replace f13 : u 13 = (.pointer (some ⟨w.heap.size, 0, none⟩)) := f13
                          replace f6 : u 6 = (.bool false) := f6
                          try simp only [f13, f6, str]
                          have cx := hI.cell (d0'.out)
                          go_wp2
                          refine stq_v rfl Same.refl ?_
                          first | (simp only [mkAct, List.foldl_cons, List.foldl_nil, List.setIfInBounds_toArray, List.set_cons_succ, List.set_cons_zero, upd, reduceIte, Nat.reduceEqDiff, Nat.reduceAdd, f13, f6, str]; done) | (simp [mkAct, upd, f13, f6, str, *]; done)
                        · -- operation 15
                          obtain ⟨f11, f14, f6, -⟩ := hp
                          replace f11 : u 11 = (.int .i64 x) := f11
                          replace f14 : u 14 = (.int .i64 N) := f14
                          replace f6 : u 6 = (.bool false) := f6
                          try simp only [f11, f14, f6, str]
                          go_wp2
                          refine stq_v rfl Same.refl ?_
                          first | (simp only [mkAct, List.foldl_cons, List.foldl_nil, List.setIfInBounds_toArray, List.set_cons_succ, List.set_cons_zero, upd, reduceIte, Nat.reduceEqDiff, Nat.reduceAdd, f11, f14, f6, str]; done) | (simp [mkAct, upd, f11, f14, f6, str, *]; done)
                        · -- operation 16
                          obtain ⟨f6, f15, -⟩ := hp
                          replace f6 : u 6 = (.bool false) := f6
                          replace f15 : u 15 = (.bool false) := f15
                          try simp only [f6, f15, str]
                          go_wp2
                          refine stq_v rfl Same.refl ?_
                          first | (simp only [mkAct, List.foldl_cons, List.foldl_nil, List.setIfInBounds_toArray, List.set_cons_succ, List.set_cons_zero, upd, reduceIte, Nat.reduceEqDiff, Nat.reduceAdd, f6, f15, str]; done) | (simp [mkAct, upd, f6, f15, str, *]; done)
                        · -- operation 17
                          obtain ⟨f16, -, -⟩ := hp
                          replace f16 : u 16 = (.bool false) := f16
                          try simp only [f16, str]
                          go_wp2
                          refine stq_v rfl Same.refl ?_
                          first | (simp only [mkAct, List.foldl_cons, List.foldl_nil, List.setIfInBounds_toArray, List.set_cons_succ, List.set_cons_zero, upd, reduceIte, Nat.reduceEqDiff, Nat.reduceAdd, f16, str]; done) | (simp [mkAct, upd, f16, str, *]; done)
                        · -- operation 18
                          obtain ⟨f17, -⟩ := hp
                          replace f17 : u 17 = (.bool false) := f17
                          try simp only [f17, str]
                          go_wp2
                          refine stq_v rfl Same.refl ?_
                          first | (simp only [mkAct, List.foldl_cons, List.foldl_nil, List.setIfInBounds_toArray, List.set_cons_succ, List.set_cons_zero, upd, reduceIte, Nat.reduceEqDiff, Nat.reduceAdd, f17, str]; done) | (simp [mkAct, upd, f17, str, *]; done)
                        · -- operation 19
                          obtain ⟨f18, f17, -⟩ := hp
                          replace f18 : u 18 = (.int .i64 0) := f18
                          replace f17 : u 17 = (.bool false) := f17
                          try simp only [f18, f17, str]
                          go_wp2
                          refine stq_v rfl Same.refl ?_
                          first | (simp only [mkAct, List.foldl_cons, List.foldl_nil, List.setIfInBounds_toArray, List.set_cons_succ, List.set_cons_zero, upd, reduceIte, Nat.reduceEqDiff, Nat.reduceAdd, f18, f17, str]; done) | (simp [mkAct, upd, f18, f17, str, *]; done)
                        · -- operation 20
                          obtain ⟨f19, -, f17, -⟩ := hp
                          replace f19 : u 19 = (.bool false) := f19
                          replace f17 : u 17 = (.bool false) := f17
                          try simp only [f19, f17, str]
                          go_wp2
                          refine stq_v rfl Same.refl ?_
                          first | (simp only [mkAct, List.foldl_cons, List.foldl_nil, List.setIfInBounds_toArray, List.set_cons_succ, List.set_cons_zero, upd, reduceIte, Nat.reduceEqDiff, Nat.reduceAdd, f19, f17, str]; done) | (simp [mkAct, upd, f19, f17, str, *]; done)
                        · -- operation 21
                          obtain ⟨f20, -⟩ := hp
                          replace f20 : u 20 = (.bool false) := f20
                          try simp only [f20, str]
                          go_wp2
                          refine stq_v rfl Same.refl ?_
                          first | (simp only [mkAct, List.foldl_cons, List.foldl_nil, List.setIfInBounds_toArray, List.set_cons_succ, List.set_cons_zero, upd, reduceIte, Nat.reduceEqDiff, Nat.reduceAdd, f20, str]; done) | (simp [mkAct, upd, f20, str, *]; done)
                        · -- operation 22
                          obtain ⟨f21, f20, -⟩ := hp
                          replace f21 : u 21 = undef := f21
                          replace f20 : u 20 = (.bool false) := f20
                          try simp only [f21, f20, str]
                          go_wp2
                          refine stq_v rfl Same.refl ?_
                          first | (simp only [mkAct, List.foldl_cons, List.foldl_nil, List.setIfInBounds_toArray, List.set_cons_succ, List.set_cons_zero, upd, reduceIte, Nat.reduceEqDiff, Nat.reduceAdd, f21, f20, str]; done) | (simp [mkAct, upd, f21, f20, str, *]; done)
                        · -- operation 23
                          obtain ⟨f20, -⟩ := hp
                          replace f20 : u 20 = (.bool false) := f20
                          try simp only [f20, str]
                          go_wp2
                          refine stq_v rfl Same.refl ?_
                          first | (simp only [mkAct, List.foldl_cons, List.foldl_nil, List.setIfInBounds_toArray, List.set_cons_succ, List.set_cons_zero, upd, reduceIte, Nat.reduceEqDiff, Nat.reduceAdd, f20, str]; done) | (simp [mkAct, upd, f20, str, *]; done)
                        · -- operation 24
                          obtain ⟨f22, f23, f20, -⟩ := hp
                          replace f22 : u 22 = undef := f22
                          replace f23 : u 23 = undef := f23
                          replace f20 : u 20 = (.bool false) := f20
                          try simp only [f22, f23, f20, str]
                          go_wp2
                          refine stq_v rfl Same.refl ?_
                          first | (simp only [mkAct, List.foldl_cons, List.foldl_nil, List.setIfInBounds_toArray, List.set_cons_succ, List.set_cons_zero, upd, reduceIte, Nat.reduceEqDiff, Nat.reduceAdd, f22, f23, f20, str]; done) | (simp [mkAct, upd, f22, f23, f20, str, *]; done)
                        · -- operation 25
                          obtain ⟨f24, f20, -⟩ := hp
                          replace f24 : u 24 = undef := f24
                          replace f20 : u 20 = (.bool false) := f20
                          try simp only [f24, f20, str]
                          go_wp2
                          refine stq_v rfl Same.refl ?_
                          first | (simp only [mkAct, List.foldl_cons, List.foldl_nil, List.setIfInBounds_toArray, List.set_cons_succ, List.set_cons_zero, upd, reduceIte, Nat.reduceEqDiff, Nat.reduceAdd, f24, f20, str]; done) | (simp [mkAct, upd, f24, f20, str, *]; done)
                        · -- operation 26
                          obtain ⟨f20, -⟩ := hp
                          replace f20 : u 20 = (.bool false) := f20
                          try simp only [f20, str]
                          go_wp2
                          refine stq_v rfl Same.refl ?_
                          first | (simp only [mkAct, List.foldl_cons, List.foldl_nil, List.setIfInBounds_toArray, List.set_cons_succ, List.set_cons_zero, upd, reduceIte, Nat.reduceEqDiff, Nat.reduceAdd, f20, str]; done) | (simp [mkAct, upd, f20, str, *]; done)
                        · -- operation 27
                          obtain ⟨f26, f20, -⟩ := hp
                          replace f26 : u 26 = undef := f26
                          replace f20 : u 20 = (.bool false) := f20
                          try simp only [f26, f20, str]
                          go_wp2
                          refine stq_v rfl Same.refl ?_
                          first | (simp only [mkAct, List.foldl_cons, List.foldl_nil, List.setIfInBounds_toArray, List.set_cons_succ, List.set_cons_zero, upd, reduceIte, Nat.reduceEqDiff, Nat.reduceAdd, f26, f20, str]; done) | (simp [mkAct, upd, f26, f20, str, *]; done)
                        · -- operation 28
                          obtain ⟨f20, -⟩ := hp
                          replace f20 : u 20 = (.bool false) := f20
                          try simp only [f20, str]
                          go_wp2
                          refine stq_v rfl Same.refl ?_
                          first | (simp only [mkAct, List.foldl_cons, List.foldl_nil, List.setIfInBounds_toArray, List.set_cons_succ, List.set_cons_zero, upd, reduceIte, Nat.reduceEqDiff, Nat.reduceAdd, f20, str]; done) | (simp [mkAct, upd, f20, str, *]; done)
                        · -- operation 29
                          obtain ⟨f28, f20, -⟩ := hp
                          replace f28 : u 28 = undef := f28
                          replace f20 : u 20 = (.bool false) := f20
                          try simp only [f28, f20, str]
                          go_wp2
                          refine stq_v rfl Same.refl ?_
                          first | (simp only [mkAct, List.foldl_cons, List.foldl_nil, List.setIfInBounds_toArray, List.set_cons_succ, List.set_cons_zero, upd, reduceIte, Nat.reduceEqDiff, Nat.reduceAdd, f28, f20, str]; done) | (simp [mkAct, upd, f28, f20, str, *]; done)
                        · -- operation 30
                          obtain ⟨f27, f29, f20, -⟩ := hp
                          replace f27 : u 27 = undef := f27
                          replace f29 : u 29 = undef := f29
                          replace f20 : u 20 = (.bool false) := f20
                          try simp only [f27, f29, f20, str]
                          go_wp2
                          refine stq_v rfl Same.refl ?_
                          first | (simp only [mkAct, List.foldl_cons, List.foldl_nil, List.setIfInBounds_toArray, List.set_cons_succ, List.set_cons_zero, upd, reduceIte, Nat.reduceEqDiff, Nat.reduceAdd, f27, f29, f20, str]; done) | (simp [mkAct, upd, f27, f29, f20, str, *]; done)
                        · -- operation 31
                          obtain ⟨f30, f20, -⟩ := hp
                          replace f30 : u 30 = undef := f30
                          replace f20 : u 20 = (.bool false) := f20
                          try simp only [f30, f20, str]
                          go_wp2
                          refine stq_v rfl Same.refl ?_
                          first | (simp only [mkAct, List.foldl_cons, List.foldl_nil, List.setIfInBounds_toArray, List.set_cons_succ, List.set_cons_zero, upd, reduceIte, Nat.reduceEqDiff, Nat.reduceAdd, f30, f20, str]; done) | (simp [mkAct, upd, f30, f20, str, *]; done)
                        · -- operation 32
                          obtain ⟨f25, f31, f20, -⟩ := hp
                          replace f25 : u 25 = undef := f25
                          replace f31 : u 31 = undef := f31
                          replace f20 : u 20 = (.bool false) := f20
                          try simp only [f25, f31, f20, str]
                          go_wp2
                          refine stq_v rfl Same.refl ?_
                          first | (simp only [mkAct, List.foldl_cons, List.foldl_nil, List.setIfInBounds_toArray, List.set_cons_succ, List.set_cons_zero, upd, reduceIte, Nat.reduceEqDiff, Nat.reduceAdd, f25, f31, f20, str]; done) | (simp [mkAct, upd, f25, f31, f20, str, *]; done)
                        · -- operation 33
                          obtain ⟨f20, f32, f17, -⟩ := hp
                          replace f20 : u 20 = (.bool false) := f20
                          replace f32 : u 32 = undef := f32
                          replace f17 : u 17 = (.bool false) := f17
                          try simp only [f20, f32, f17, str]
                          go_wp2
                          refine stq_v rfl Same.refl ?_
                          first | (simp only [mkAct, List.foldl_cons, List.foldl_nil, List.setIfInBounds_toArray, List.set_cons_succ, List.set_cons_zero, upd, reduceIte, Nat.reduceEqDiff, Nat.reduceAdd, f20, f32, f17, str]; done) | (simp [mkAct, upd, f20, f32, f17, str, *]; done)
                        · -- operation 34
                          obtain ⟨f17, f33, -⟩ := hp
                          replace f17 : u 17 = (.bool false) := f17
                          replace f33 : u 33 = (.bool false) := f33
                          try simp only [f17, f33, str]
                          go_wp2
                          refine stq_v rfl Same.refl ?_
                          first | (simp only [mkAct, List.foldl_cons, List.foldl_nil, List.setIfInBounds_toArray, List.set_cons_succ, List.set_cons_zero, upd, reduceIte, Nat.reduceEqDiff, Nat.reduceAdd, f17, f33, str]; done) | (simp [mkAct, upd, f17, f33, str, *]; done)
                      · intro u wx hI hR
                        obtain ⟨r0, r1, r2, r3, r4, r5, r6, r7, r8, r9, r10, r11, r12, r13, r14, r15, r16, r17, r18, r19, r20, r21, r22, r23, r24, r25, r26, r27, r28, r29, r30, r31, r32, r33, r34, -⟩ := hR
                        replace r0 : u 0 = (.pointer (some ⟨w.heap.size, 12, none⟩)) := r0
                        replace r1 : u 1 = (.slice (some ⟨bk, off, none⟩) len cap) := r1
                        replace r2 : u 2 = (.int .i64 0) := r2
                        replace r3 : u 3 = (.pointer (some ⟨bk, off, none⟩)) := r3
                        replace r4 : u 4 = (.int .i64 x) := r4
                        replace r5 : u 5 = (.bool false) := r5
                        replace r6 : u 6 = (.bool false) := r6
                        replace r7 : u 7 = (.pointer (some ⟨w.heap.size, 12, none⟩)) := r7
                        replace r8 : u 8 = (.slice (some ⟨bk, off, none⟩) len cap) := r8
                        replace r9 : u 9 = (.int .i64 0) := r9
                        replace r10 : u 10 = (.pointer (some ⟨bk, off, none⟩)) := r10
                        replace r11 : u 11 = (.int .i64 x) := r11
                        replace r12 : u 12 = (.pointer (some ⟨w.heap.size, 0, none⟩)) := r12
                        replace r13 : u 13 = (.pointer (some ⟨w.heap.size, 0, none⟩)) := r13
                        replace r14 : u 14 = (.int .i64 N) := r14
                        replace r15 : u 15 = (.bool false) := r15
                        replace r16 : u 16 = (.bool false) := r16
                        replace r17 : u 17 = (.bool false) := r17
                        replace r18 : u 18 = (.int .i64 0) := r18
                        replace r19 : u 19 = (.bool false) := r19
                        replace r20 : u 20 = (.bool false) := r20
                        replace r21 : u 21 = undef := r21
                        replace r22 : u 22 = undef := r22
                        replace r23 : u 23 = undef := r23
                        replace r24 : u 24 = undef := r24
                        replace r25 : u 25 = undef := r25
                        replace r26 : u 26 = undef := r26
                        replace r27 : u 27 = undef := r27
                        replace r28 : u 28 = undef := r28
                        replace r29 : u 29 = undef := r29
                        replace r30 : u 30 = undef := r30
                        replace r31 : u 31 = undef := r31
                        replace r32 : u 32 = undef := r32
                        replace r33 : u 33 = (.bool false) := r33
                        replace r34 : u 34 = (.bool false) := r34
                        simp only [mkAct, List.foldl_cons, List.foldl_nil, List.setIfInBounds_toArray, List.set_cons_succ, List.set_cons_zero]
                        try simp only [str, r0, r1, r2, r3, r4, r5, r6, r7, r8, r9, r10, r11, r12, r13, r14, r15, r16, r17, r18, r19, r20, r21, r22, r23, r24, r25, r26, r27, r28, r29, r30, r31, r32, r33, r34]
                        go_wp2_with fail
                        go_meet
                        exact ⟨rfl, hI⟩
                    case rest =>
                      obtain ⟨rfl, hsq⟩ := hcut
                      have hsR := hs.out.trans hsq
                      clear hsq cc d0' n3r
                      replace hsk := Lib.hid hsk
                      go_wp2
                      go_roundw
                      case rel => exact ⟨1, by omega, by go_num, hsk.out, hsR⟩
                      case measure => simp [intOf]; omega
                  · obtain ⟨j, rfl⟩ : ∃ j, k = j + 1 := ⟨k - 1, by omega⟩
                    have cp := hs.cell (hcell j _ (iv_get (by omega)))
                    have hx2 : l[j]'(by omega) = l.getD j 0 := by simp [List.getD, show j < l.length by omega]
                    rw [hx2] at cp
                    have hla2 : lastOf l (j + 1) = l.getD j 0 := by simp [lastOf]
                    rw [hla2] at hst
                    obtain ⟨y, hye⟩ : ∃ y, y = l.getD j 0 := ⟨_, rfl⟩
                    rw [← hye] at hst cp
                    have hj1 : ((j + 1 : Nat) : Int) - 1 = (j : Int) := by omega
                    have hj2 : (0 : Int) < ((j + 1 : Nat) : Int) := by omega
                    obtain ⟨k, hkj⟩ : ∃ k, k = j + 1 := ⟨_, rfl⟩
                    rw [← hkj] at cc hst hsk hbk hlt hk q0 q1 hj1 hj2 ⊢
                    have hj3 : (j : Int) < (len : Int) := by omega
                    have hj4 : 0 ≤ (j : Int) := by omega
                    have hjn : 0 < k := by omega
                    have hwj : IntKind.i64.wrap ((k : Int) - 1) = (j : Int) := by rw [hj1]; exact IntWalk.i64_in _ ⟨by omega, by omega⟩
                    clear hcell hx hxe hx2 hye hri hge hla2 hk0 hlo
                    replace hs := Lib.hid hs
                    replace hkj := Lib.hid hkj
                    by_cases h1 : y < x
                    · rw [decide_eq_true h1, decide_eq_true hB] at hst
                      rw [hst] at hsk
                      clear hst hbk
                      replace cc := Lib.hid cc
                      replace d0' := Lib.hid d0'
                      replace cp := Lib.hid cp
                      go_upto_region 6 with fail
                      replace n3r := Lib.hid n3r
                      go_cut [68] (fun v wx => v = .bool false ∧ Same wr wx)
                      case first =>
                        refine wp_region_facts (by kernel_rfl) [(34, 0), (35, 1), (36, 2), (37, 3), (38, 4), (39, 5), (40, 6), (41, 7), (42, 8), (43, 9), (44, 10), (45, 11), (46, 12), (47, 13), (48, 14), (49, 15), (50, 16), (51, 17), (52, 18), (53, 19), (54, 20), (55, 21), (56, 22), (57, 23), (58, 24), (59, 25), (60, 26), (61, 27), (62, 28), (63, 29), (64, 30), (65, 31), (66, 32), (67, 33), (68, 34)] Same (Same _) [isV (.pointer (some ⟨w.heap.size, 12, none⟩)), isV (.slice (some ⟨bk, off, none⟩) len cap), isV (.int .i64 (k : Int)), isV (.pointer (some ⟨bk, off + k, none⟩)), isV (.int .i64 x), isV (.bool false), isV (.bool false), isV (.pointer (some ⟨w.heap.size, 12, none⟩)), isV (.slice (some ⟨bk, off, none⟩) len cap), isV (.int .i64 (k : Int)), isV (.pointer (some ⟨bk, off + k, none⟩)), isV (.int .i64 x), isV (.pointer (some ⟨w.heap.size, 0, none⟩)), isV (.pointer (some ⟨w.heap.size, 0, none⟩)), isV (.int .i64 N), isV (.bool false), isV (.bool false), isV (.bool false), isV (.int .i64 (k : Int)), isV (.bool true), isV (.bool true), isV (.pointer (some ⟨w.heap.size, 12, none⟩)), isV (.slice (some ⟨bk, off, none⟩) len cap), isV (.int .i64 (k : Int)), isV (.pointer (some ⟨bk, off + k, none⟩)), isV (.int .i64 x), isV (.pointer (some ⟨w.heap.size, 12, none⟩)), isV (.slice (some ⟨bk, off, none⟩) len cap), isV (.int .i64 (k : Int)), isV (.int .i64 (j : Int)), isV (.pointer (some ⟨bk, off + j, none⟩)), isV (.int .i64 y), isV (.bool false), isV (.bool false), isV (.bool false)] Same.refl.drew (fun _ _ h k => h.trans k) (by simp [isV_stable, isB_stable, isAny_stable]) (by decide) (by decide) ?_ ?_
                        · refine ⟨?_, ?_, ?_, ?_, ?_, ?_, ?_, ?_, ?_, ?_, ?_, ?_, ?_, ?_, ?_, ?_, ?_, ?_, ?_, ?_, ?_, ?_, ?_, ?_, ?_, ?_, ?_, ?_, ?_, ?_, ?_, ?_, ?_, ?_, ?_, trivial⟩
                          all_goals (intro u wx hI hp; simp only [mkAct, List.foldl_cons, List.foldl_nil, List.setIfInBounds_toArray, List.set_cons_succ, List.set_cons_zero])
                          · -- operation 0
                            go_wp2
                            refine stq_v rfl Same.refl ?_
                            first | (simp only [mkAct, List.foldl_cons, List.foldl_nil, List.setIfInBounds_toArray, List.set_cons_succ, List.set_cons_zero, upd, reduceIte, Nat.reduceEqDiff, Nat.reduceAdd, str]; done) | (simp [mkAct, upd, str, *]; done)
                          · -- operation 1
                            obtain ⟨f0, -⟩ := hp
                            replace f0 : u 0 = (.pointer (some ⟨w.heap.size, 12, none⟩)) := f0
                            try simp only [f0, str]
                            have cx := hI.cell (n3r.out)
                            go_wp2
                            refine stq_v rfl Same.refl ?_
                            first | (simp only [mkAct, List.foldl_cons, List.foldl_nil, List.setIfInBounds_toArray, List.set_cons_succ, List.set_cons_zero, upd, reduceIte, Nat.reduceEqDiff, Nat.reduceAdd, f0, str]; done) | (simp [mkAct, upd, f0, str, *]; done)
                          · -- operation 2
                            go_wp2
                            refine stq_v rfl Same.refl ?_
                            first | (simp only [mkAct, List.foldl_cons, List.foldl_nil, List.setIfInBounds_toArray, List.set_cons_succ, List.set_cons_zero, upd, reduceIte, Nat.reduceEqDiff, Nat.reduceAdd, str]; done) | (simp [mkAct, upd, str, *]; done)
                          · -- operation 3
                            obtain ⟨f1, f2, -⟩ := hp
                            replace f1 : u 1 = (.slice (some ⟨bk, off, none⟩) len cap) := f1
                            replace f2 : u 2 = (.int .i64 (k : Int)) := f2
                            try simp only [f1, f2, str]
                            go_wp2
                            refine stq_v rfl Same.refl ?_
                            first | (simp only [mkAct, List.foldl_cons, List.foldl_nil, List.setIfInBounds_toArray, List.set_cons_succ, List.set_cons_zero, upd, reduceIte, Nat.reduceEqDiff, Nat.reduceAdd, f1, f2, str]; done) | (simp [mkAct, upd, f1, f2, str, *]; done)
                          · -- operation 4
                            obtain ⟨f3, -⟩ := hp
                            replace f3 : u 3 = (.pointer (some ⟨bk, off + k, none⟩)) := f3
                            try simp only [f3, str]
                            have cx := hI.cell (cc.out)
                            go_wp2
                            refine stq_v rfl Same.refl ?_
                            first | (simp only [mkAct, List.foldl_cons, List.foldl_nil, List.setIfInBounds_toArray, List.set_cons_succ, List.set_cons_zero, upd, reduceIte, Nat.reduceEqDiff, Nat.reduceAdd, f3, str]; done) | (simp [mkAct, upd, f3, str, *]; done)
                          · -- operation 5
                            obtain ⟨f4, -⟩ := hp
                            replace f4 : u 4 = (.int .i64 x) := f4
                            try simp only [f4, str]
                            go_wp2
                            refine stq_v rfl Same.refl ?_
                            first | (simp only [mkAct, List.foldl_cons, List.foldl_nil, List.setIfInBounds_toArray, List.set_cons_succ, List.set_cons_zero, upd, reduceIte, Nat.reduceEqDiff, Nat.reduceAdd, f4, str]; done) | (simp [mkAct, upd, f4, str, *]; done)
                          · -- operation 6
                            obtain ⟨f5, -⟩ := hp
                            replace f5 : u 5 = (.bool false) := f5
                            try simp only [f5, str]
                            go_wp2
                            refine stq_v rfl Same.refl ?_
                            first | (simp only [mkAct, List.foldl_cons, List.foldl_nil, List.setIfInBounds_toArray, List.set_cons_succ, List.set_cons_zero, upd, reduceIte, Nat.reduceEqDiff, Nat.reduceAdd, f5, str]; done) | (simp [mkAct, upd, f5, str, *]; done)
                          · -- operation 7
                            obtain ⟨f6, -⟩ := hp
                            replace f6 : u 6 = (.bool false) := f6
                            try simp only [f6, str]
                            go_wp2
                            refine stq_v rfl Same.refl ?_
                            first | (simp only [mkAct, List.foldl_cons, List.foldl_nil, List.setIfInBounds_toArray, List.set_cons_succ, List.set_cons_zero, upd, reduceIte, Nat.reduceEqDiff, Nat.reduceAdd, f6, str]; done) | (simp [mkAct, upd, f6, str, *]; done)
                          · -- operation 8
                            obtain ⟨f7, f6, -⟩ := hp
                            replace f7 : u 7 = (.pointer (some ⟨w.heap.size, 12, none⟩)) := f7
                            replace f6 : u 6 = (.bool false) := f6
                            try simp only [f7, f6, str]
                            have cx := hI.cell (n3r.out)
                            go_wp2
                            refine stq_v rfl Same.refl ?_
                            first | (simp only [mkAct, List.foldl_cons, List.foldl_nil, List.setIfInBounds_toArray, List.set_cons_succ, List.set_cons_zero, upd, reduceIte, Nat.reduceEqDiff, Nat.reduceAdd, f7, f6, str]; done) | (simp [mkAct, upd, f7, f6, str, *]; done)
                          · -- operation 9
                            obtain ⟨f6, -⟩ := hp
                            replace f6 : u 6 = (.bool false) := f6
                            try simp only [f6, str]
                            go_wp2
                            refine stq_v rfl Same.refl ?_
                            first | (simp only [mkAct, List.foldl_cons, List.foldl_nil, List.setIfInBounds_toArray, List.set_cons_succ, List.set_cons_zero, upd, reduceIte, Nat.reduceEqDiff, Nat.reduceAdd, f6, str]; done) | (simp [mkAct, upd, f6, str, *]; done)
                          · -- operation 10
                            obtain ⟨f8, f9, f6, -⟩ := hp
                            replace f8 : u 8 = (.slice (some ⟨bk, off, none⟩) len cap) := f8
                            replace f9 : u 9 = (.int .i64 (k : Int)) := f9
                            replace f6 : u 6 = (.bool false) := f6
                            try simp only [f8, f9, f6, str]
                            go_wp2
                            refine stq_v rfl Same.refl ?_
                            first | (simp only [mkAct, List.foldl_cons, List.foldl_nil, List.setIfInBounds_toArray, List.set_cons_succ, List.set_cons_zero, upd, reduceIte, Nat.reduceEqDiff, Nat.reduceAdd, f8, f9, f6, str]; done) | (simp [mkAct, upd, f8, f9, f6, str, *]; done)
                          · -- operation 11
                            obtain ⟨f10, f6, -⟩ := hp
                            replace f10 : u 10 = (.pointer (some ⟨bk, off + k, none⟩)) := f10
                            replace f6 : u 6 = (.bool false) := f6
                            try simp only [f10, f6, str]
                            have cx := hI.cell (cc.out)
                            go_wp2
                            refine stq_v rfl Same.refl ?_
                            first | (simp only [mkAct, List.foldl_cons, List.foldl_nil, List.setIfInBounds_toArray, List.set_cons_succ, List.set_cons_zero, upd, reduceIte, Nat.reduceEqDiff, Nat.reduceAdd, f10, f6, str]; done) | (simp [mkAct, upd, f10, f6, str, *]; done)
                          · -- operation 12
                            obtain ⟨f6, -⟩ := hp
                            replace f6 : u 6 = (.bool false) := f6
                            try simp only [f6, str]
                            go_wp2
                            refine stq_v rfl Same.refl ?_
                            first | (simp only [mkAct, List.foldl_cons, List.foldl_nil, List.setIfInBounds_toArray, List.set_cons_succ, List.set_cons_zero, upd, reduceIte, Nat.reduceEqDiff, Nat.reduceAdd, f6, str]; done) | (simp [mkAct, upd, f6, str, *]; done)
                          · -- operation 13
                            obtain ⟨f12, f6, -⟩ := hp
                            replace f12 : u 12 = (.pointer (some ⟨w.heap.size, 0, none⟩)) := f12
                            replace f6 : u 6 = (.bool false) := f6
                            try simp only [f12, f6, str]
                            go_wp2
                            refine stq_v rfl Same.refl ?_
                            first | (simp only [mkAct, List.foldl_cons, List.foldl_nil, List.setIfInBounds_toArray, List.set_cons_succ, List.set_cons_zero, upd, reduceIte, Nat.reduceEqDiff, Nat.reduceAdd, f12, f6, str]; done) | (simp [mkAct, upd, f12, f6, str, *]; done)
                          · -- operation 14
                            obtain ⟨f13, f6, -⟩ := hp
                            replace f13 : u 13 = (.pointer (some ⟨w.heap.size, 0, none⟩)) := f13
                            replace f6 : u 6 = (.bool false) := f6
                            try simp only [f13, f6, str]
                            have cx := hI.cell (d0'.out)
                            go_wp2
                            refine stq_v rfl Same.refl ?_
                            first | (simp only [mkAct, List.foldl_cons, List.foldl_nil, List.setIfInBounds_toArray, List.set_cons_succ, List.set_cons_zero, upd, reduceIte, Nat.reduceEqDiff, Nat.reduceAdd, f13, f6, str]; done) | (simp [mkAct, upd, f13, f6, str, *]; done)
                          · -- operation 15
                            obtain ⟨f11, f14, f6, -⟩ := hp
                            replace f11 : u 11 = (.int .i64 x) := f11
                            replace f14 : u 14 = (.int .i64 N) := f14
                            replace f6 : u 6 = (.bool false) := f6
                            try simp only [f11, f14, f6, str]
                            go_wp2
                            refine stq_v rfl Same.refl ?_
                            first | (simp only [mkAct, List.foldl_cons, List.foldl_nil, List.setIfInBounds_toArray, List.set_cons_succ, List.set_cons_zero, upd, reduceIte, Nat.reduceEqDiff, Nat.reduceAdd, f11, f14, f6, str]; done) | (simp [mkAct, upd, f11, f14, f6, str, *]; done)
                          · -- operation 16
                            obtain ⟨f6, f15, -⟩ := hp
                            replace f6 : u 6 = (.bool false) := f6
                            replace f15 : u 15 = (.bool false) := f15
                            try simp only [f6, f15, str]
                            go_wp2
                            refine stq_v rfl Same.refl ?_
                            first | (simp only [mkAct, List.foldl_cons, List.foldl_nil, List.setIfInBounds_toArray, List.set_cons_succ, List.set_cons_zero, upd, reduceIte, Nat.reduceEqDiff, Nat.reduceAdd, f6, f15, str]; done) | (simp [mkAct, upd, f6, f15, str, *]; done)
                          · -- operation 17
                            obtain ⟨f16, -, -⟩ := hp
                            replace f16 : u 16 = (.bool false) := f16
                            try simp only [f16, str]
                            go_wp2
                            refine stq_v rfl Same.refl ?_
                            first | (simp only [mkAct, List.foldl_cons, List.foldl_nil, List.setIfInBounds_toArray, List.set_cons_succ, List.set_cons_zero, upd, reduceIte, Nat.reduceEqDiff, Nat.reduceAdd, f16, str]; done) | (simp [mkAct, upd, f16, str, *]; done)
                          · -- operation 18
                            obtain ⟨f17, -⟩ := hp
                            replace f17 : u 17 = (.bool false) := f17
                            try simp only [f17, str]
                            go_wp2
                            refine stq_v rfl Same.refl ?_
                            first | (simp only [mkAct, List.foldl_cons, List.foldl_nil, List.setIfInBounds_toArray, List.set_cons_succ, List.set_cons_zero, upd, reduceIte, Nat.reduceEqDiff, Nat.reduceAdd, f17, str]; done) | (simp [mkAct, upd, f17, str, *]; done)
                          · -- operation 19
                            obtain ⟨f18, f17, -⟩ := hp
                            replace f18 : u 18 = (.int .i64 (k : Int)) := f18
                            replace f17 : u 17 = (.bool false) := f17
                            try simp only [f18, f17, str]
                            go_wp2
                            refine stq_v rfl Same.refl ?_
                            first | (simp only [mkAct, List.foldl_cons, List.foldl_nil, List.setIfInBounds_toArray, List.set_cons_succ, List.set_cons_zero, upd, reduceIte, Nat.reduceEqDiff, Nat.reduceAdd, f18, f17, str]; done) | (simp [mkAct, upd, f18, f17, str, *]; done)
                          · -- operation 20
                            obtain ⟨f19, -, f17, -⟩ := hp
                            replace f19 : u 19 = (.bool true) := f19
                            replace f17 : u 17 = (.bool false) := f17
                            try simp only [f19, f17, str]
                            go_wp2
                            refine stq_v rfl Same.refl ?_
                            first | (simp only [mkAct, List.foldl_cons, List.foldl_nil, List.setIfInBounds_toArray, List.set_cons_succ, List.set_cons_zero, upd, reduceIte, Nat.reduceEqDiff, Nat.reduceAdd, f19, f17, str]; done) | (simp [mkAct, upd, f19, f17, str, *]; done)
                          · -- operation 21
                            obtain ⟨f20, -⟩ := hp
                            replace f20 : u 20 = (.bool true) := f20
                            try simp only [f20, str]
                            go_wp2
                            refine stq_v rfl Same.refl ?_
                            first | (simp only [mkAct, List.foldl_cons, List.foldl_nil, List.setIfInBounds_toArray, List.set_cons_succ, List.set_cons_zero, upd, reduceIte, Nat.reduceEqDiff, Nat.reduceAdd, f20, str]; done) | (simp [mkAct, upd, f20, str, *]; done)
                          · -- operation 22
                            obtain ⟨f21, f20, -⟩ := hp
                            replace f21 : u 21 = (.pointer (some ⟨w.heap.size, 12, none⟩)) := f21
                            replace f20 : u 20 = (.bool true) := f20
                            try simp only [f21, f20, str]
                            have cx := hI.cell (n3r.out)
                            go_wp2
                            refine stq_v rfl Same.refl ?_
                            first | (simp only [mkAct, List.foldl_cons, List.foldl_nil, List.setIfInBounds_toArray, List.set_cons_succ, List.set_cons_zero, upd, reduceIte, Nat.reduceEqDiff, Nat.reduceAdd, f21, f20, str]; done) | (simp [mkAct, upd, f21, f20, str, *]; done)
                          · -- operation 23
                            obtain ⟨f20, -⟩ := hp
                            replace f20 : u 20 = (.bool true) := f20
                            try simp only [f20, str]
                            go_wp2
                            refine stq_v rfl Same.refl ?_
                            first | (simp only [mkAct, List.foldl_cons, List.foldl_nil, List.setIfInBounds_toArray, List.set_cons_succ, List.set_cons_zero, upd, reduceIte, Nat.reduceEqDiff, Nat.reduceAdd, f20, str]; done) | (simp [mkAct, upd, f20, str, *]; done)
                          · -- operation 24
                            obtain ⟨f22, f23, f20, -⟩ := hp
                            replace f22 : u 22 = (.slice (some ⟨bk, off, none⟩) len cap) := f22
                            replace f23 : u 23 = (.int .i64 (k : Int)) := f23
                            replace f20 : u 20 = (.bool true) := f20
                            try simp only [f22, f23, f20, str]
                            go_wp2
                            refine stq_v rfl Same.refl ?_
                            first | (simp only [mkAct, List.foldl_cons, List.foldl_nil, List.setIfInBounds_toArray, List.set_cons_succ, List.set_cons_zero, upd, reduceIte, Nat.reduceEqDiff, Nat.reduceAdd, f22, f23, f20, str]; done) | (simp [mkAct, upd, f22, f23, f20, str, *]; done)
                          · -- operation 25
                            obtain ⟨f24, f20, -⟩ := hp
                            replace f24 : u 24 = (.pointer (some ⟨bk, off + k, none⟩)) := f24
                            replace f20 : u 20 = (.bool true) := f20
                            try simp only [f24, f20, str]
                            have cx := hI.cell (cc.out)
                            go_wp2
                            refine stq_v rfl Same.refl ?_
                            first | (simp only [mkAct, List.foldl_cons, List.foldl_nil, List.setIfInBounds_toArray, List.set_cons_succ, List.set_cons_zero, upd, reduceIte, Nat.reduceEqDiff, Nat.reduceAdd, f24, f20, str]; done) | (simp [mkAct, upd, f24, f20, str, *]; done)
                          · -- operation 26
                            obtain ⟨f20, -⟩ := hp
                            replace f20 : u 20 = (.bool true) := f20
                            try simp only [f20, str]
                            go_wp2
                            refine stq_v rfl Same.refl ?_
                            first | (simp only [mkAct, List.foldl_cons, List.foldl_nil, List.setIfInBounds_toArray, List.set_cons_succ, List.set_cons_zero, upd, reduceIte, Nat.reduceEqDiff, Nat.reduceAdd, f20, str]; done) | (simp [mkAct, upd, f20, str, *]; done)
                          · -- operation 27
                            obtain ⟨f26, f20, -⟩ := hp
                            replace f26 : u 26 = (.pointer (some ⟨w.heap.size, 12, none⟩)) := f26
                            replace f20 : u 20 = (.bool true) := f20
                            try simp only [f26, f20, str]
                            have cx := hI.cell (n3r.out)
                            go_wp2
                            refine stq_v rfl Same.refl ?_
                            first | (simp only [mkAct, List.foldl_cons, List.foldl_nil, List.setIfInBounds_toArray, List.set_cons_succ, List.set_cons_zero, upd, reduceIte, Nat.reduceEqDiff, Nat.reduceAdd, f26, f20, str]; done) | (simp [mkAct, upd, f26, f20, str, *]; done)
                          · -- operation 28
                            obtain ⟨f20, -⟩ := hp
                            replace f20 : u 20 = (.bool true) := f20
                            try simp only [f20, str]
                            go_wp2
                            refine stq_v rfl Same.refl ?_
                            first | (simp only [mkAct, List.foldl_cons, List.foldl_nil, List.setIfInBounds_toArray, List.set_cons_succ, List.set_cons_zero, upd, reduceIte, Nat.reduceEqDiff, Nat.reduceAdd, f20, str]; done) | (simp [mkAct, upd, f20, str, *]; done)
                          · -- operation 29
                            obtain ⟨f28, f20, -⟩ := hp
                            replace f28 : u 28 = (.int .i64 (k : Int)) := f28
                            replace f20 : u 20 = (.bool true) := f20
                            try simp only [f28, f20, str]
                            go_wp2
                            refine stq_v rfl Same.refl ?_
                            first | (simp only [mkAct, List.foldl_cons, List.foldl_nil, List.setIfInBounds_toArray, List.set_cons_succ, List.set_cons_zero, upd, reduceIte, Nat.reduceEqDiff, Nat.reduceAdd, f28, f20, str]; done) | (simp [mkAct, upd, f28, f20, str, *]; done)
                          · -- operation 30
                            obtain ⟨f27, f29, f20, -⟩ := hp
                            replace f27 : u 27 = (.slice (some ⟨bk, off, none⟩) len cap) := f27
                            replace f29 : u 29 = (.int .i64 (j : Int)) := f29
                            replace f20 : u 20 = (.bool true) := f20
                            try simp only [f27, f29, f20, str]
                            go_wp2
                            refine stq_v rfl Same.refl ?_
                            first | (simp only [mkAct, List.foldl_cons, List.foldl_nil, List.setIfInBounds_toArray, List.set_cons_succ, List.set_cons_zero, upd, reduceIte, Nat.reduceEqDiff, Nat.reduceAdd, f27, f29, f20, str]; done) | (simp [mkAct, upd, f27, f29, f20, str, *]; done)
                          · -- operation 31
                            obtain ⟨f30, f20, -⟩ := hp
                            replace f30 : u 30 = (.pointer (some ⟨bk, off + j, none⟩)) := f30
                            replace f20 : u 20 = (.bool true) := f20
                            try simp only [f30, f20, str]
                            have cx := hI.cell (cp.out)
                            go_wp2
                            refine stq_v rfl Same.refl ?_
                            first | (simp only [mkAct, List.foldl_cons, List.foldl_nil, List.setIfInBounds_toArray, List.set_cons_succ, List.set_cons_zero, upd, reduceIte, Nat.reduceEqDiff, Nat.reduceAdd, f30, f20, str]; done) | (simp [mkAct, upd, f30, f20, str, *]; done)
                          · -- operation 32
                            obtain ⟨f25, f31, f20, -⟩ := hp
                            replace f25 : u 25 = (.int .i64 x) := f25
                            replace f31 : u 31 = (.int .i64 y) := f31
                            replace f20 : u 20 = (.bool true) := f20
                            try simp only [f25, f31, f20, str]
                            go_wp2
                            refine stq_v rfl Same.refl ?_
                            first | (simp only [mkAct, List.foldl_cons, List.foldl_nil, List.setIfInBounds_toArray, List.set_cons_succ, List.set_cons_zero, upd, reduceIte, Nat.reduceEqDiff, Nat.reduceAdd, f25, f31, f20, str]; done) | (simp [mkAct, upd, f25, f31, f20, str, *]; done)
                          · -- operation 33
                            obtain ⟨f20, f32, f17, -⟩ := hp
                            replace f20 : u 20 = (.bool true) := f20
                            replace f32 : u 32 = (.bool false) := f32
                            replace f17 : u 17 = (.bool false) := f17
                            try simp only [f20, f32, f17, str]
                            go_wp2
                            refine stq_v rfl Same.refl ?_
                            first | (simp only [mkAct, List.foldl_cons, List.foldl_nil, List.setIfInBounds_toArray, List.set_cons_succ, List.set_cons_zero, upd, reduceIte, Nat.reduceEqDiff, Nat.reduceAdd, f20, f32, f17, str]; done) | (simp [mkAct, upd, f20, f32, f17, str, *]; done)
                          · -- operation 34
                            obtain ⟨f17, f33, -⟩ := hp
                            replace f17 : u 17 = (.bool false) := f17
                            replace f33 : u 33 = (.bool false) := f33
                            try simp only [f17, f33, str]
                            go_wp2
                            refine stq_v rfl Same.refl ?_
                            first | (simp only [mkAct, List.foldl_cons, List.foldl_nil, List.setIfInBounds_toArray, List.set_cons_succ, List.set_cons_zero, upd, reduceIte, Nat.reduceEqDiff, Nat.reduceAdd, f17, f33, str]; done) | (simp [mkAct, upd, f17, f33, str, *]; done)
                        · intro u wx hI hR
                          obtain ⟨r0, r1, r2, r3, r4, r5, r6, r7, r8, r9, r10, r11, r12, r13, r14, r15, r16, r17, r18, r19, r20, r21, r22, r23, r24, r25, r26, r27, r28, r29, r30, r31, r32, r33, r34, -⟩ := hR
                          replace r0 : u 0 = (.pointer (some ⟨w.heap.size, 12, none⟩)) := r0
                          replace r1 : u 1 = (.slice (some ⟨bk, off, none⟩) len cap) := r1
                          replace r2 : u 2 = (.int .i64 (k : Int)) := r2
                          replace r3 : u 3 = (.pointer (some ⟨bk, off + k, none⟩)) := r3
                          replace r4 : u 4 = (.int .i64 x) := r4
                          replace r5 : u 5 = (.bool false) := r5
                          replace r6 : u 6 = (.bool false) := r6
                          replace r7 : u 7 = (.pointer (some ⟨w.heap.size, 12, none⟩)) := r7
                          replace r8 : u 8 = (.slice (some ⟨bk, off, none⟩) len cap) := r8
                          replace r9 : u 9 = (.int .i64 (k : Int)) := r9
                          replace r10 : u 10 = (.pointer (some ⟨bk, off + k, none⟩)) := r10
                          replace r11 : u 11 = (.int .i64 x) := r11
                          replace r12 : u 12 = (.pointer (some ⟨w.heap.size, 0, none⟩)) := r12
                          replace r13 : u 13 = (.pointer (some ⟨w.heap.size, 0, none⟩)) := r13
                          replace r14 : u 14 = (.int .i64 N) := r14
                          replace r15 : u 15 = (.bool false) := r15
                          replace r16 : u 16 = (.bool false) := r16
                          replace r17 : u 17 = (.bool false) := r17
                          replace r18 : u 18 = (.int .i64 (k : Int)) := r18
                          replace r19 : u 19 = (.bool true) := r19
                          replace r20 : u 20 = (.bool true) := r20
                          replace r21 : u 21 = (.pointer (some ⟨w.heap.size, 12, none⟩)) := r21
                          replace r22 : u 22 = (.slice (some ⟨bk, off, none⟩) len cap) := r22
                          replace r23 : u 23 = (.int .i64 (k : Int)) := r23
                          replace r24 : u 24 = (.pointer (some ⟨bk, off + k, none⟩)) := r24
                          replace r25 : u 25 = (.int .i64 x) := r25
                          replace r26 : u 26 = (.pointer (some ⟨w.heap.size, 12, none⟩)) := r26
                          replace r27 : u 27 = (.slice (some ⟨bk, off, none⟩) len cap) := r27
                          replace r28 : u 28 = (.int .i64 (k : Int)) := r28
                          replace r29 : u 29 = (.int .i64 (j : Int)) := r29
                          replace r30 : u 30 = (.pointer (some ⟨bk, off + j, none⟩)) := r30
                          replace r31 : u 31 = (.int .i64 y) := r31
                          replace r32 : u 32 = (.bool false) := r32
                          replace r33 : u 33 = (.bool false) := r33
                          replace r34 : u 34 = (.bool false) := r34
                          simp only [mkAct, List.foldl_cons, List.foldl_nil, List.setIfInBounds_toArray, List.set_cons_succ, List.set_cons_zero]
                          try simp only [str, r0, r1, r2, r3, r4, r5, r6, r7, r8, r9, r10, r11, r12, r13, r14, r15, r16, r17, r18, r19, r20, r21, r22, r23, r24, r25, r26, r27, r28, r29, r30, r31, r32, r33, r34]
                          go_wp2_with fail
                          go_meet
                          exact ⟨rfl, hI⟩
                      case rest =>
                        obtain ⟨rfl, hsq⟩ := hcut
                        have hsR := hs.out.trans hsq
                        clear hsq cc cp d0' n3r hwj hj1
                        replace hsk := Lib.hid hsk
                        go_wp2
                        go_roundw
                        case rel => exact ⟨k + 1, by omega, by go_num, hsk.out, hsR⟩
                        case measure => simp [intOf]; omega
                    · rw [decide_eq_false h1, Bool.false_and] at hst
                      have hR2 : R = false := by rw [hR.out, hbk hst]; rfl
                      clear hst hbk hsk
                      replace hR2 := Lib.hid hR2
                      replace cc := Lib.hid cc
                      replace d0' := Lib.hid d0'
                      replace cp := Lib.hid cp
                      go_upto_region 6 with fail
                      replace n3r := Lib.hid n3r
                      go_cut [68] (fun v wx => v = .bool true ∧ Same wr wx)
                      case first =>
                        refine wp_region_facts (by kernel_rfl) [(34, 0), (35, 1), (36, 2), (37, 3), (38, 4), (39, 5), (40, 6), (41, 7), (42, 8), (43, 9), (44, 10), (45, 11), (46, 12), (47, 13), (48, 14), (49, 15), (50, 16), (51, 17), (52, 18), (53, 19), (54, 20), (55, 21), (56, 22), (57, 23), (58, 24), (59, 25), (60, 26), (61, 27), (62, 28), (63, 29), (64, 30), (65, 31), (66, 32), (67, 33), (68, 34)] Same (Same _) [isV (.pointer (some ⟨w.heap.size, 12, none⟩)), isV (.slice (some ⟨bk, off, none⟩) len cap), isV (.int .i64 (k : Int)), isV (.pointer (some ⟨bk, off + k, none⟩)), isV (.int .i64 x), isV (.bool false), isV (.bool false), isV (.pointer (some ⟨w.heap.size, 12, none⟩)), isV (.slice (some ⟨bk, off, none⟩) len cap), isV (.int .i64 (k : Int)), isV (.pointer (some ⟨bk, off + k, none⟩)), isV (.int .i64 x), isV (.pointer (some ⟨w.heap.size, 0, none⟩)), isV (.pointer (some ⟨w.heap.size, 0, none⟩)), isV (.int .i64 N), isV (.bool false), isV (.bool false), isV (.bool false), isV (.int .i64 (k : Int)), isV (.bool true), isV (.bool true), isV (.pointer (some ⟨w.heap.size, 12, none⟩)), isV (.slice (some ⟨bk, off, none⟩) len cap), isV (.int .i64 (k : Int)), isV (.pointer (some ⟨bk, off + k, none⟩)), isV (.int .i64 x), isV (.pointer (some ⟨w.heap.size, 12, none⟩)), isV (.slice (some ⟨bk, off, none⟩) len cap), isV (.int .i64 (k : Int)), isV (.int .i64 (j : Int)), isV (.pointer (some ⟨bk, off + j, none⟩)), isV (.int .i64 y), isV (.bool true), isV (.bool true), isV (.bool true)] Same.refl.drew (fun _ _ h k => h.trans k) (by simp [isV_stable, isB_stable, isAny_stable]) (by decide) (by decide) ?_ ?_
                        · refine ⟨?_, ?_, ?_, ?_, ?_, ?_, ?_, ?_, ?_, ?_, ?_, ?_, ?_, ?_, ?_, ?_, ?_, ?_, ?_, ?_, ?_, ?_, ?_, ?_, ?_, ?_, ?_, ?_, ?_, ?_, ?_, ?_, ?_, ?_, ?_, trivial⟩
                          all_goals (intro u wx hI hp; simp only [mkAct, List.foldl_cons, List.foldl_nil, List.setIfInBounds_toArray, List.set_cons_succ, List.set_cons_zero])
                          · -- operation 0
                            go_wp2
                            refine stq_v rfl Same.refl ?_
                            first | (simp only [mkAct, List.foldl_cons, List.foldl_nil, List.setIfInBounds_toArray, List.set_cons_succ, List.set_cons_zero, upd, reduceIte, Nat.reduceEqDiff, Nat.reduceAdd, str]; done) | (simp [mkAct, upd, str, *]; done)
                          · -- operation 1
                            obtain ⟨f0, -⟩ := hp
                            replace f0 : u 0 = (.pointer (some ⟨w.heap.size, 12, none⟩)) := f0
                            try simp only [f0, str]
                            have cx := hI.cell (n3r.out)
                            go_wp2
                            refine stq_v rfl Same.refl ?_
                            first | (simp only [mkAct, List.foldl_cons, List.foldl_nil, List.setIfInBounds_toArray, List.set_cons_succ, List.set_cons_zero, upd, reduceIte, Nat.reduceEqDiff, Nat.reduceAdd, f0, str]; done) | (simp [mkAct, upd, f0, str, *]; done)
                          · -- operation 2
                            go_wp2
                            refine stq_v rfl Same.refl ?_
                            first | (simp only [mkAct, List.foldl_cons, List.foldl_nil, List.setIfInBounds_toArray, List.set_cons_succ, List.set_cons_zero, upd, reduceIte, Nat.reduceEqDiff, Nat.reduceAdd, str]; done) | (simp [mkAct, upd, str, *]; done)
                          · -- operation 3
                            obtain ⟨f1, f2, -⟩ := hp
                            replace f1 : u 1 = (.slice (some ⟨bk, off, none⟩) len cap) := f1
                            replace f2 : u 2 = (.int .i64 (k : Int)) := f2
                            try simp only [f1, f2, str]
                            go_wp2
                            refine stq_v rfl Same.refl ?_
                            first | (simp only [mkAct, List.foldl_cons, List.foldl_nil, List.setIfInBounds_toArray, List.set_cons_succ, List.set_cons_zero, upd, reduceIte, Nat.reduceEqDiff, Nat.reduceAdd, f1, f2, str]; done) | (simp [mkAct, upd, f1, f2, str, *]; done)
                          · -- operation 4
                            obtain ⟨f3, -⟩ := hp
                            replace f3 : u 3 = (.pointer (some ⟨bk, off + k, none⟩)) := f3
                            try simp only [f3, str]
                            have cx := hI.cell (cc.out)
                            go_wp2
                            refine stq_v rfl Same.refl ?_
                            first | (simp only [mkAct, List.foldl_cons, List.foldl_nil, List.setIfInBounds_toArray, List.set_cons_succ, List.set_cons_zero, upd, reduceIte, Nat.reduceEqDiff, Nat.reduceAdd, f3, str]; done) | (simp [mkAct, upd, f3, str, *]; done)
                          · -- operation 5
                            obtain ⟨f4, -⟩ := hp
                            replace f4 : u 4 = (.int .i64 x) := f4
                            try simp only [f4, str]
                            go_wp2
                            refine stq_v rfl Same.refl ?_
                            first | (simp only [mkAct, List.foldl_cons, List.foldl_nil, List.setIfInBounds_toArray, List.set_cons_succ, List.set_cons_zero, upd, reduceIte, Nat.reduceEqDiff, Nat.reduceAdd, f4, str]; done) | (simp [mkAct, upd, f4, str, *]; done)
                          · -- operation 6
                            obtain ⟨f5, -⟩ := hp
                            replace f5 : u 5 = (.bool false) := f5
                            try simp only [f5, str]
                            go_wp2
                            refine stq_v rfl Same.refl ?_
                            first | (simp only [mkAct, List.foldl_cons, List.foldl_nil, List.setIfInBounds_toArray, List.set_cons_succ, List.set_cons_zero, upd, reduceIte, Nat.reduceEqDiff, Nat.reduceAdd, f5, str]; done) | (simp [mkAct, upd, f5, str, *]; done)
                          · -- operation 7
                            obtain ⟨f6, -⟩ := hp
                            replace f6 : u 6 = (.bool false) := f6
                            try simp only [f6, str]
                            go_wp2
                            refine stq_v rfl Same.refl ?_
                            first | (simp only [mkAct, List.foldl_cons, List.foldl_nil, List.setIfInBounds_toArray, List.set_cons_succ, List.set_cons_zero, upd, reduceIte, Nat.reduceEqDiff, Nat.reduceAdd, f6, str]; done) | (simp [mkAct, upd, f6, str, *]; done)
                          · -- operation 8
                            obtain ⟨f7, f6, -⟩ := hp
                            replace f7 : u 7 = (.pointer (some ⟨w.heap.size, 12, none⟩)) := f7
                            replace f6 : u 6 = (.bool false) := f6
                            try simp only [f7, f6, str]
                            have cx := hI.cell (n3r.out)
                            go_wp2
                            refine stq_v rfl Same.refl ?_
                            first | (simp only [mkAct, List.foldl_cons, List.foldl_nil, List.setIfInBounds_toArray, List.set_cons_succ, List.set_cons_zero, upd, reduceIte, Nat.reduceEqDiff, Nat.reduceAdd, f7, f6, str]; done) | (simp [mkAct, upd, f7, f6, str, *]; done)
                          · -- operation 9
                            obtain ⟨f6, -⟩ := hp
                            replace f6 : u 6 = (.bool false) := f6
                            try simp only [f6, str]
                            go_wp2
                            refine stq_v rfl Same.refl ?_
                            first | (simp only [mkAct, List.foldl_cons, List.foldl_nil, List.setIfInBounds_toArray, List.set_cons_succ, List.set_cons_zero, upd, reduceIte, Nat.reduceEqDiff, Nat.reduceAdd, f6, str]; done) | (simp [mkAct, upd, f6, str, *]; done)
                          · -- operation 10
                            obtain ⟨f8, f9, f6, -⟩ := hp
                            replace f8 : u 8 = (.slice (some ⟨bk, off, none⟩) len cap) := f8
                            replace f9 : u 9 = (.int .i64 (k : Int)) := f9
                            replace f6 : u 6 = (.bool false) := f6
                            try simp only [f8, f9, f6, str]
                            go_wp2
                            refine stq_v rfl Same.refl ?_
                            first | (simp only [mkAct, List.foldl_cons, List.foldl_nil, List.setIfInBounds_toArray, List.set_cons_succ, List.set_cons_zero, upd, reduceIte, Nat.reduceEqDiff, Nat.reduceAdd, f8, f9, f6, str]; done) | (simp [mkAct, upd, f8, f9, f6, str, *]; done)
                          · -- operation 11
                            obtain ⟨f10, f6, -⟩ := hp
                            replace f10 : u 10 = (.pointer (some ⟨bk, off + k, none⟩)) := f10
                            replace f6 : u 6 = (.bool false) := f6
                            try simp only [f10, f6, str]
                            have cx := hI.cell (cc.out)
                            go_wp2
                            refine stq_v rfl Same.refl ?_
                            first | (simp only [mkAct, List.foldl_cons, List.foldl_nil, List.setIfInBounds_toArray, List.set_cons_succ, List.set_cons_zero, upd, reduceIte, Nat.reduceEqDiff, Nat.reduceAdd, f10, f6, str]; done) | (simp [mkAct, upd, f10, f6, str, *]; done)
                          · -- operation 12
                            obtain ⟨f6, -⟩ := hp
                            replace f6 : u 6 = (.bool false) := f6
                            try simp only [f6, str]
                            go_wp2
                            refine stq_v rfl Same.refl ?_
                            first | (simp only [mkAct, List.foldl_cons, List.foldl_nil, List.setIfInBounds_toArray, List.set_cons_succ, List.set_cons_zero, upd, reduceIte, Nat.reduceEqDiff, Nat.reduceAdd, f6, str]; done) | (simp [mkAct, upd, f6, str, *]; done)
                          · -- operation 13
                            obtain ⟨f12, f6, -⟩ := hp
                            replace f12 : u 12 = (.pointer (some ⟨w.heap.size, 0, none⟩)) := f12
                            replace f6 : u 6 = (.bool false) := f6
                            try simp only [f12, f6, str]
                            go_wp2
                            refine stq_v rfl Same.refl ?_
                            first | (simp only [mkAct, List.foldl_cons, List.foldl_nil, List.setIfInBounds_toArray, List.set_cons_succ, List.set_cons_zero, upd, reduceIte, Nat.reduceEqDiff, Nat.reduceAdd, f12, f6, str]; done) | (simp [mkAct, upd, f12, f6, str, *]; done)
                          · -- operation 14
                            obtain ⟨f13, f6, -⟩ := hp
                            replace f13 : u 13 = (.pointer (some ⟨w.heap.size, 0, none⟩)) := f13
                            replace f6 : u 6 = (.bool false) := f6
                            try simp only [f13, f6, str]
                            have cx := hI.cell (d0'.out)
                            go_wp2
                            refine stq_v rfl Same.refl ?_
                            first | (simp only [mkAct, List.foldl_cons, List.foldl_nil, List.setIfInBounds_toArray, List.set_cons_succ, List.set_cons_zero, upd, reduceIte, Nat.reduceEqDiff, Nat.reduceAdd, f13, f6, str]; done) | (simp [mkAct, upd, f13, f6, str, *]; done)
                          · -- operation 15
                            obtain ⟨f11, f14, f6, -⟩ := hp
                            replace f11 : u 11 = (.int .i64 x) := f11
                            replace f14 : u 14 = (.int .i64 N) := f14
                            replace f6 : u 6 = (.bool false) := f6
                            try simp only [f11, f14, f6, str]
                            go_wp2
                            refine stq_v rfl Same.refl ?_
                            first | (simp only [mkAct, List.foldl_cons, List.foldl_nil, List.setIfInBounds_toArray, List.set_cons_succ, List.set_cons_zero, upd, reduceIte, Nat.reduceEqDiff, Nat.reduceAdd, f11, f14, f6, str]; done) | (simp [mkAct, upd, f11, f14, f6, str, *]; done)
                          · -- operation 16
                            obtain ⟨f6, f15, -⟩ := hp
                            replace f6 : u 6 = (.bool false) := f6
                            replace f15 : u 15 = (.bool false) := f15
                            try simp only [f6, f15, str]
                            go_wp2
                            refine stq_v rfl Same.refl ?_
                            first | (simp only [mkAct, List.foldl_cons, List.foldl_nil, List.setIfInBounds_toArray, List.set_cons_succ, List.set_cons_zero, upd, reduceIte, Nat.reduceEqDiff, Nat.reduceAdd, f6, f15, str]; done) | (simp [mkAct, upd, f6, f15, str, *]; done)
                          · -- operation 17
                            obtain ⟨f16, -, -⟩ := hp
                            replace f16 : u 16 = (.bool false) := f16
                            try simp only [f16, str]
                            go_wp2
                            refine stq_v rfl Same.refl ?_
                            first | (simp only [mkAct, List.foldl_cons, List.foldl_nil, List.setIfInBounds_toArray, List.set_cons_succ, List.set_cons_zero, upd, reduceIte, Nat.reduceEqDiff, Nat.reduceAdd, f16, str]; done) | (simp [mkAct, upd, f16, str, *]; done)
                          · -- operation 18
                            obtain ⟨f17, -⟩ := hp
                            replace f17 : u 17 = (.bool false) := f17
                            try simp only [f17, str]
                            go_wp2
                            refine stq_v rfl Same.refl ?_
                            first | (simp only [mkAct, List.foldl_cons, List.foldl_nil, List.setIfInBounds_toArray, List.set_cons_succ, List.set_cons_zero, upd, reduceIte, Nat.reduceEqDiff, Nat.reduceAdd, f17, str]; done) | (simp [mkAct, upd, f17, str, *]; done)
                          · -- operation 19
                            obtain ⟨f18, f17, -⟩ := hp
                            replace f18 : u 18 = (.int .i64 (k : Int)) := f18
                            replace f17 : u 17 = (.bool false) := f17
                            try simp only [f18, f17, str]
                            go_wp2
                            refine stq_v rfl Same.refl ?_
                            first | (simp only [mkAct, List.foldl_cons, List.foldl_nil, List.setIfInBounds_toArray, List.set_cons_succ, List.set_cons_zero, upd, reduceIte, Nat.reduceEqDiff, Nat.reduceAdd, f18, f17, str]; done) | (simp [mkAct, upd, f18, f17, str, *]; done)
                          · -- operation 20
                            obtain ⟨f19, -, f17, -⟩ := hp
                            replace f19 : u 19 = (.bool true) := f19
                            replace f17 : u 17 = (.bool false) := f17
                            try simp only [f19, f17, str]
                            go_wp2
                            refine stq_v rfl Same.refl ?_
                            first | (simp only [mkAct, List.foldl_cons, List.foldl_nil, List.setIfInBounds_toArray, List.set_cons_succ, List.set_cons_zero, upd, reduceIte, Nat.reduceEqDiff, Nat.reduceAdd, f19, f17, str]; done) | (simp [mkAct, upd, f19, f17, str, *]; done)
                          · -- operation 21
                            obtain ⟨f20, -⟩ := hp
                            replace f20 : u 20 = (.bool true) := f20
                            try simp only [f20, str]
                            go_wp2
                            refine stq_v rfl Same.refl ?_
                            first | (simp only [mkAct, List.foldl_cons, List.foldl_nil, List.setIfInBounds_toArray, List.set_cons_succ, List.set_cons_zero, upd, reduceIte, Nat.reduceEqDiff, Nat.reduceAdd, f20, str]; done) | (simp [mkAct, upd, f20, str, *]; done)
                          · -- operation 22
                            obtain ⟨f21, f20, -⟩ := hp
                            replace f21 : u 21 = (.pointer (some ⟨w.heap.size, 12, none⟩)) := f21
                            replace f20 : u 20 = (.bool true) := f20
                            try simp only [f21, f20, str]
                            have cx := hI.cell (n3r.out)
                            go_wp2
                            refine stq_v rfl Same.refl ?_
                            first | (simp only [mkAct, List.foldl_cons, List.foldl_nil, List.setIfInBounds_toArray, List.set_cons_succ, List.set_cons_zero, upd, reduceIte, Nat.reduceEqDiff, Nat.reduceAdd, f21, f20, str]; done) | (simp [mkAct, upd, f21, f20, str, *]; done)
                          · -- operation 23
                            obtain ⟨f20, -⟩ := hp
                            replace f20 : u 20 = (.bool true) := f20
                            try simp only [f20, str]
                            go_wp2
                            refine stq_v rfl Same.refl ?_
                            first | (simp only [mkAct, List.foldl_cons, List.foldl_nil, List.setIfInBounds_toArray, List.set_cons_succ, List.set_cons_zero, upd, reduceIte, Nat.reduceEqDiff, Nat.reduceAdd, f20, str]; done) | (simp [mkAct, upd, f20, str, *]; done)
                          · -- operation 24
                            obtain ⟨f22, f23, f20, -⟩ := hp
                            replace f22 : u 22 = (.slice (some ⟨bk, off, none⟩) len cap) := f22
                            replace f23 : u 23 = (.int .i64 (k : Int)) := f23
                            replace f20 : u 20 = (.bool true) := f20
                            try simp only [f22, f23, f20, str]
                            go_wp2
                            refine stq_v rfl Same.refl ?_
                            first | (simp only [mkAct, List.foldl_cons, List.foldl_nil, List.setIfInBounds_toArray, List.set_cons_succ, List.set_cons_zero, upd, reduceIte, Nat.reduceEqDiff, Nat.reduceAdd, f22, f23, f20, str]; done) | (simp [mkAct, upd, f22, f23, f20, str, *]; done)
                          · -- operation 25
                            obtain ⟨f24, f20, -⟩ := hp
                            replace f24 : u 24 = (.pointer (some ⟨bk, off + k, none⟩)) := f24
                            replace f20 : u 20 = (.bool true) := f20
                            try simp only [f24, f20, str]
                            have cx := hI.cell (cc.out)
                            go_wp2
                            refine stq_v rfl Same.refl ?_
                            first | (simp only [mkAct, List.foldl_cons, List.foldl_nil, List.setIfInBounds_toArray, List.set_cons_succ, List.set_cons_zero, upd, reduceIte, Nat.reduceEqDiff, Nat.reduceAdd, f24, f20, str]; done) | (simp [mkAct, upd, f24, f20, str, *]; done)
                          · -- operation 26
                            obtain ⟨f20, -⟩ := hp
                            replace f20 : u 20 = (.bool true) := f20
                            try simp only [f20, str]
                            go_wp2
                            refine stq_v rfl Same.refl ?_
                            first | (simp only [mkAct, List.foldl_cons, List.foldl_nil, List.setIfInBounds_toArray, List.set_cons_succ, List.set_cons_zero, upd, reduceIte, Nat.reduceEqDiff, Nat.reduceAdd, f20, str]; done) | (simp [mkAct, upd, f20, str, *]; done)
                          · -- operation 27
                            obtain ⟨f26, f20, -⟩ := hp
                            replace f26 : u 26 = (.pointer (some ⟨w.heap.size, 12, none⟩)) := f26
                            replace f20 : u 20 = (.bool true) := f20
                            try simp only [f26, f20, str]
                            have cx := hI.cell (n3r.out)
                            go_wp2
                            refine stq_v rfl Same.refl ?_
                            first | (simp only [mkAct, List.foldl_cons, List.foldl_nil, List.setIfInBounds_toArray, List.set_cons_succ, List.set_cons_zero, upd, reduceIte, Nat.reduceEqDiff, Nat.reduceAdd, f26, f20, str]; done) | (simp [mkAct, upd, f26, f20, str, *]; done)
                          · -- operation 28
                            obtain ⟨f20, -⟩ := hp
                            replace f20 : u 20 = (.bool true) := f20
                            try simp only [f20, str]
                            go_wp2
                            refine stq_v rfl Same.refl ?_
                            first | (simp only [mkAct, List.foldl_cons, List.foldl_nil, List.setIfInBounds_toArray, List.set_cons_succ, List.set_cons_zero, upd, reduceIte, Nat.reduceEqDiff, Nat.reduceAdd, f20, str]; done) | (simp [mkAct, upd, f20, str, *]; done)
                          · -- operation 29
                            obtain ⟨f28, f20, -⟩ := hp
                            replace f28 : u 28 = (.int .i64 (k : Int)) := f28
                            replace f20 : u 20 = (.bool true) := f20
                            try simp only [f28, f20, str]
                            go_wp2
                            refine stq_v rfl Same.refl ?_
                            first | (simp only [mkAct, List.foldl_cons, List.foldl_nil, List.setIfInBounds_toArray, List.set_cons_succ, List.set_cons_zero, upd, reduceIte, Nat.reduceEqDiff, Nat.reduceAdd, f28, f20, str]; done) | (simp [mkAct, upd, f28, f20, str, *]; done)
                          · -- operation 30
                            obtain ⟨f27, f29, f20, -⟩ := hp
                            replace f27 : u 27 = (.slice (some ⟨bk, off, none⟩) len cap) := f27
                            replace f29 : u 29 = (.int .i64 (j : Int)) := f29
                            replace f20 : u 20 = (.bool true) := f20
                            try simp only [f27, f29, f20, str]
                            go_wp2
                            refine stq_v rfl Same.refl ?_
                            first | (simp only [mkAct, List.foldl_cons, List.foldl_nil, List.setIfInBounds_toArray, List.set_cons_succ, List.set_cons_zero, upd, reduceIte, Nat.reduceEqDiff, Nat.reduceAdd, f27, f29, f20, str]; done) | (simp [mkAct, upd, f27, f29, f20, str, *]; done)
                          · -- operation 31
                            obtain ⟨f30, f20, -⟩ := hp
                            replace f30 : u 30 = (.pointer (some ⟨bk, off + j, none⟩)) := f30
                            replace f20 : u 20 = (.bool true) := f20
                            try simp only [f30, f20, str]
                            have cx := hI.cell (cp.out)
                            go_wp2
                            refine stq_v rfl Same.refl ?_
                            first | (simp only [mkAct, List.foldl_cons, List.foldl_nil, List.setIfInBounds_toArray, List.set_cons_succ, List.set_cons_zero, upd, reduceIte, Nat.reduceEqDiff, Nat.reduceAdd, f30, f20, str]; done) | (simp [mkAct, upd, f30, f20, str, *]; done)
                          · -- operation 32
                            obtain ⟨f25, f31, f20, -⟩ := hp
                            replace f25 : u 25 = (.int .i64 x) := f25
                            replace f31 : u 31 = (.int .i64 y) := f31
                            replace f20 : u 20 = (.bool true) := f20
                            try simp only [f25, f31, f20, str]
                            go_wp2
                            refine stq_v rfl Same.refl ?_
                            first | (simp only [mkAct, List.foldl_cons, List.foldl_nil, List.setIfInBounds_toArray, List.set_cons_succ, List.set_cons_zero, upd, reduceIte, Nat.reduceEqDiff, Nat.reduceAdd, f25, f31, f20, str]; done) | (simp [mkAct, upd, f25, f31, f20, str, *]; done)
                          · -- operation 33
                            obtain ⟨f20, f32, f17, -⟩ := hp
                            replace f20 : u 20 = (.bool true) := f20
                            replace f32 : u 32 = (.bool true) := f32
                            replace f17 : u 17 = (.bool false) := f17
                            try simp only [f20, f32, f17, str]
                            go_wp2
                            refine stq_v rfl Same.refl ?_
                            first | (simp only [mkAct, List.foldl_cons, List.foldl_nil, List.setIfInBounds_toArray, List.set_cons_succ, List.set_cons_zero, upd, reduceIte, Nat.reduceEqDiff, Nat.reduceAdd, f20, f32, f17, str]; done) | (simp [mkAct, upd, f20, f32, f17, str, *]; done)
                          · -- operation 34
                            obtain ⟨f17, f33, -⟩ := hp
                            replace f17 : u 17 = (.bool false) := f17
                            replace f33 : u 33 = (.bool true) := f33
                            try simp only [f17, f33, str]
                            go_wp2
                            refine stq_v rfl Same.refl ?_
                            first | (simp only [mkAct, List.foldl_cons, List.foldl_nil, List.setIfInBounds_toArray, List.set_cons_succ, List.set_cons_zero, upd, reduceIte, Nat.reduceEqDiff, Nat.reduceAdd, f17, f33, str]; done) | (simp [mkAct, upd, f17, f33, str, *]; done)
                        · intro u wx hI hR
                          obtain ⟨r0, r1, r2, r3, r4, r5, r6, r7, r8, r9, r10, r11, r12, r13, r14, r15, r16, r17, r18, r19, r20, r21, r22, r23, r24, r25, r26, r27, r28, r29, r30, r31, r32, r33, r34, -⟩ := hR
                          replace r0 : u 0 = (.pointer (some ⟨w.heap.size, 12, none⟩)) := r0
                          replace r1 : u 1 = (.slice (some ⟨bk, off, none⟩) len cap) := r1
                          replace r2 : u 2 = (.int .i64 (k : Int)) := r2
                          replace r3 : u 3 = (.pointer (some ⟨bk, off + k, none⟩)) := r3
                          replace r4 : u 4 = (.int .i64 x) := r4
                          replace r5 : u 5 = (.bool false) := r5
                          replace r6 : u 6 = (.bool false) := r6
                          replace r7 : u 7 = (.pointer (some ⟨w.heap.size, 12, none⟩)) := r7
                          replace r8 : u 8 = (.slice (some ⟨bk, off, none⟩) len cap) := r8
                          replace r9 : u 9 = (.int .i64 (k : Int)) := r9
                          replace r10 : u 10 = (.pointer (some ⟨bk, off + k, none⟩)) := r10
                          replace r11 : u 11 = (.int .i64 x) := r11
                          replace r12 : u 12 = (.pointer (some ⟨w.heap.size, 0, none⟩)) := r12
                          replace r13 : u 13 = (.pointer (some ⟨w.heap.size, 0, none⟩)) := r13
                          replace r14 : u 14 = (.int .i64 N) := r14
                          replace r15 : u 15 = (.bool false) := r15
                          replace r16 : u 16 = (.bool false) := r16
                          replace r17 : u 17 = (.bool false) := r17
                          replace r18 : u 18 = (.int .i64 (k : Int)) := r18
                          replace r19 : u 19 = (.bool true) := r19
                          replace r20 : u 20 = (.bool true) := r20
                          replace r21 : u 21 = (.pointer (some ⟨w.heap.size, 12, none⟩)) := r21
                          replace r22 : u 22 = (.slice (some ⟨bk, off, none⟩) len cap) := r22
                          replace r23 : u 23 = (.int .i64 (k : Int)) := r23
                          replace r24 : u 24 = (.pointer (some ⟨bk, off + k, none⟩)) := r24
                          replace r25 : u 25 = (.int .i64 x) := r25
                          replace r26 : u 26 = (.pointer (some ⟨w.heap.size, 12, none⟩)) := r26
                          replace r27 : u 27 = (.slice (some ⟨bk, off, none⟩) len cap) := r27
                          replace r28 : u 28 = (.int .i64 (k : Int)) := r28
                          replace r29 : u 29 = (.int .i64 (j : Int)) := r29
                          replace r30 : u 30 = (.pointer (some ⟨bk, off + j, none⟩)) := r30
                          replace r31 : u 31 = (.int .i64 y) := r31
                          replace r32 : u 32 = (.bool true) := r32
                          replace r33 : u 33 = (.bool true) := r33
                          replace r34 : u 34 = (.bool true) := r34
                          simp only [mkAct, List.foldl_cons, List.foldl_nil, List.setIfInBounds_toArray, List.set_cons_succ, List.set_cons_zero]
                          try simp only [str, r0, r1, r2, r3, r4, r5, r6, r7, r8, r9, r10, r11, r12, r13, r14, r15, r16, r17, r18, r19, r20, r21, r22, r23, r24, r25, r26, r27, r28, r29, r30, r31, r32, r33, r34]
                          go_wp2_with fail
                          go_meet
                          exact ⟨rfl, hI⟩
                      case rest =>
                        obtain ⟨rfl, hsq⟩ := hcut
                        have hsR := hs.out.trans hsq
                        clear hsq cc cp d0' n3r hwj hj1
                        go_wp2
                        go_ret
                        exact ⟨by rw [hR2.out]; rfl, hs01.out.trans hsR⟩
                · rw [decide_eq_false hB, Bool.and_false] at hst
                  have hR2 : R = false := by rw [hR.out, hbk hst]; rfl
                  clear hst hbk hsk hcell hx hxe hri hge hlo
                  replace hR2 := Lib.hid hR2
                  replace hs := Lib.hid hs
                  replace cc := Lib.hid cc
                  replace d0' := Lib.hid d0'
                  go_upto_region 6 with fail
                  replace n3r := Lib.hid n3r
                  go_cut [68] (fun v wx => v = .bool true ∧ Same wr wx)
                  case first =>
                    refine wp_region_facts (by kernel_rfl) [(34, 0), (35, 1), (36, 2), (37, 3), (38, 4), (39, 5), (40, 6), (41, 7), (42, 8), (43, 9), (44, 10), (45, 11), (46, 12), (47, 13), (48, 14), (49, 15), (50, 16), (51, 17), (52, 18), (53, 19), (54, 20), (55, 21), (56, 22), (57, 23), (58, 24), (59, 25), (60, 26), (61, 27), (62, 28), (63, 29), (64, 30), (65, 31), (66, 32), (67, 33), (68, 34)] Same (Same _) [isV (.pointer (some ⟨w.heap.size, 12, none⟩)), isV (.slice (some ⟨bk, off, none⟩) len cap), isV (.int .i64 (k : Int)), isV (.pointer (some ⟨bk, off + k, none⟩)), isV (.int .i64 x), isV (.bool false), isV (.bool false), isV (.pointer (some ⟨w.heap.size, 12, none⟩)), isV (.slice (some ⟨bk, off, none⟩) len cap), isV (.int .i64 (k : Int)), isV (.pointer (some ⟨bk, off + k, none⟩)), isV (.int .i64 x), isV (.pointer (some ⟨w.heap.size, 0, none⟩)), isV (.pointer (some ⟨w.heap.size, 0, none⟩)), isV (.int .i64 N), isV (.bool true), isV (.bool true), isV (.bool true), isV undef, isV undef, isV undef, isV undef, isV undef, isV undef, isV undef, isV undef, isV undef, isV undef, isV undef, isV undef, isV undef, isV undef, isV undef, isV undef, isV (.bool true)] Same.refl.drew (fun _ _ h k => h.trans k) (by simp [isV_stable, isB_stable, isAny_stable]) (by decide) (by decide) ?_ ?_
                    · refine ⟨?_, ?_, ?_, ?_, ?_, ?_, ?_, ?_, ?_, ?_, ?_, ?_, ?_, ?_, ?_, ?_, ?_, ?_, ?_, ?_, ?_, ?_, ?_, ?_, ?_, ?_, ?_, ?_, ?_, ?_, ?_, ?_, ?_, ?_, ?_, trivial⟩
                      all_goals (intro u wx hI hp; simp only [mkAct, List.foldl_cons, List.foldl_nil, List.setIfInBounds_toArray, List.set_cons_succ, List.set_cons_zero])
                      · -- operation 0
                        go_wp2
                        refine stq_v rfl Same.refl ?_
                        first | (simp only [mkAct, List.foldl_cons, List.foldl_nil, List.setIfInBounds_toArray, List.set_cons_succ, List.set_cons_zero, upd, reduceIte, Nat.reduceEqDiff, Nat.reduceAdd, str]; done) | (simp [mkAct, upd, str, *]; done)
                      · -- operation 1
                        obtain ⟨f0, -⟩ := hp
                        replace f0 : u 0 = (.pointer (some ⟨w.heap.size, 12, none⟩)) := f0
                        try simp only [f0, str]
                        have cx := hI.cell (n3r.out)
                        go_wp2
                        refine stq_v rfl Same.refl ?_
                        first | (simp only [mkAct, List.foldl_cons, List.foldl_nil, List.setIfInBounds_toArray, List.set_cons_succ, List.set_cons_zero, upd, reduceIte, Nat.reduceEqDiff, Nat.reduceAdd, f0, str]; done) | (simp [mkAct, upd, f0, str, *]; done)
                      · -- operation 2
                        go_wp2
                        refine stq_v rfl Same.refl ?_
                        first | (simp only [mkAct, List.foldl_cons, List.foldl_nil, List.setIfInBounds_toArray, List.set_cons_succ, List.set_cons_zero, upd, reduceIte, Nat.reduceEqDiff, Nat.reduceAdd, str]; done) | (simp [mkAct, upd, str, *]; done)
                      · -- operation 3
                        obtain ⟨f1, f2, -⟩ := hp
                        replace f1 : u 1 = (.slice (some ⟨bk, off, none⟩) len cap) := f1
                        replace f2 : u 2 = (.int .i64 (k : Int)) := f2
                        try simp only [f1, f2, str]
                        go_wp2
                        refine stq_v rfl Same.refl ?_
                        first | (simp only [mkAct, List.foldl_cons, List.foldl_nil, List.setIfInBounds_toArray, List.set_cons_succ, List.set_cons_zero, upd, reduceIte, Nat.reduceEqDiff, Nat.reduceAdd, f1, f2, str]; done) | (simp [mkAct, upd, f1, f2, str, *]; done)
                      · -- operation 4
                        obtain ⟨f3, -⟩ := hp
                        replace f3 : u 3 = (.pointer (some ⟨bk, off + k, none⟩)) := f3
                        try simp only [f3, str]
                        have cx := hI.cell (cc.out)
                        go_wp2
                        refine stq_v rfl Same.refl ?_
                        first | (simp only [mkAct, List.foldl_cons, List.foldl_nil, List.setIfInBounds_toArray, List.set_cons_succ, List.set_cons_zero, upd, reduceIte, Nat.reduceEqDiff, Nat.reduceAdd, f3, str]; done) | (simp [mkAct, upd, f3, str, *]; done)
                      · -- operation 5
                        obtain ⟨f4, -⟩ := hp
                        replace f4 : u 4 = (.int .i64 x) := f4
                        try simp only [f4, str]
                        go_wp2
                        refine stq_v rfl Same.refl ?_
                        first | (simp only [mkAct, List.foldl_cons, List.foldl_nil, List.setIfInBounds_toArray, List.set_cons_succ, List.set_cons_zero, upd, reduceIte, Nat.reduceEqDiff, Nat.reduceAdd, f4, str]; done) | (simp [mkAct, upd, f4, str, *]; done)
                      · -- operation 6
                        obtain ⟨f5, -⟩ := hp
                        replace f5 : u 5 = (.bool false) := f5
                        try simp only [f5, str]
                        go_wp2
                        refine stq_v rfl Same.refl ?_
                        first | (simp only [mkAct, List.foldl_cons, List.foldl_nil, List.setIfInBounds_toArray, List.set_cons_succ, List.set_cons_zero, upd, reduceIte, Nat.reduceEqDiff, Nat.reduceAdd, f5, str]; done) | (simp [mkAct, upd, f5, str, *]; done)
                      · -- operation 7
                        obtain ⟨f6, -⟩ := hp
                        replace f6 : u 6 = (.bool false) := f6
                        try simp only [f6, str]
                        go_wp2
                        refine stq_v rfl Same.refl ?_
                        first | (simp only [mkAct, List.foldl_cons, List.foldl_nil, List.setIfInBounds_toArray, List.set_cons_succ, List.set_cons_zero, upd, reduceIte, Nat.reduceEqDiff, Nat.reduceAdd, f6, str]; done) | (simp [mkAct, upd, f6, str, *]; done)
                      · -- operation 8
                        obtain ⟨f7, f6, -⟩ := hp
                        replace f7 : u 7 = (.pointer (some ⟨w.heap.size, 12, none⟩)) := f7
                        replace f6 : u 6 = (.bool false) := f6
                        try simp only [f7, f6, str]
                        have cx := hI.cell (n3r.out)
                        go_wp2
                        refine stq_v rfl Same.refl ?_
                        first | (simp only [mkAct, List.foldl_cons, List.foldl_nil, List.setIfInBounds_toArray, List.set_cons_succ, List.set_cons_zero, upd, reduceIte, Nat.reduceEqDiff, Nat.reduceAdd, f7, f6, str]; done) | (simp [mkAct, upd, f7, f6, str, *]; done)
                      · -- operation 9
                        obtain ⟨f6, -⟩ := hp
                        replace f6 : u 6 = (.bool false) := f6
                        try simp only [f6, str]
                        go_wp2
                        refine stq_v rfl Same.refl ?_
                        first | (simp only [mkAct, List.foldl_cons, List.foldl_nil, List.setIfInBounds_toArray, List.set_cons_succ, List.set_cons_zero, upd, reduceIte, Nat.reduceEqDiff, Nat.reduceAdd, f6, str]; done) | (simp [mkAct, upd, f6, str, *]; done)
                      · -- operation 10
                        obtain ⟨f8, f9, f6, -⟩ := hp
                        replace f8 : u 8 = (.slice (some ⟨bk, off, none⟩) len cap) := f8
                        replace f9 : u 9 = (.int .i64 (k : Int)) := f9
                        replace f6 : u 6 = (.bool false) := f6
                        try simp only [f8, f9, f6, str]
                        go_wp2
                        refine stq_v rfl Same.refl ?_
                        first | (simp only [mkAct, List.foldl_cons, List.foldl_nil, List.setIfInBounds_toArray, List.set_cons_succ, List.set_cons_zero, upd, reduceIte, Nat.reduceEqDiff, Nat.reduceAdd, f8, f9, f6, str]; done) | (simp [mkAct, upd, f8, f9, f6, str, *]; done)
                      · -- operation 11
                        obtain ⟨f10, f6, -⟩ := hp
                        replace f10 : u 10 = (.pointer (some ⟨bk, off + k, none⟩)) := f10
                        replace f6 : u 6 = (.bool false) := f6
                        try simp only [f10, f6, str]
                        have cx := hI.cell (cc.out)
                        go_wp2
                        refine stq_v rfl Same.refl ?_
                        first | (simp only [mkAct, List.foldl_cons, List.foldl_nil, List.setIfInBounds_toArray, List.set_cons_succ, List.set_cons_zero, upd, reduceIte, Nat.reduceEqDiff, Nat.reduceAdd, f10, f6, str]; done) | (simp [mkAct, upd, f10, f6, str, *]; done)
                      · -- operation 12
                        obtain ⟨f6, -⟩ := hp
                        replace f6 : u 6 = (.bool false) := f6
                        try simp only [f6, str]
                        go_wp2
                        refine stq_v rfl Same.refl ?_
                        first | (simp only [mkAct, List.foldl_cons, List.foldl_nil, List.setIfInBounds_toArray, List.set_cons_succ, List.set_cons_zero, upd, reduceIte, Nat.reduceEqDiff, Nat.reduceAdd, f6, str]; done) | (simp [mkAct, upd, f6, str, *]; done)
                      · -- operation 13
                        obtain ⟨f12, f6, -⟩ := hp
                        replace f12 : u 12 = (.pointer (some ⟨w.heap.size, 0, none⟩)) := f12
                        replace f6 : u 6 = (.bool false) := f6
                        try simp only [f12, f6, str]
                        go_wp2
                        refine stq_v rfl Same.refl ?_
                        first | (simp only [mkAct, List.foldl_cons, List.foldl_nil, List.setIfInBounds_toArray, List.set_cons_succ, List.set_cons_zero, upd, reduceIte, Nat.reduceEqDiff, Nat.reduceAdd, f12, f6, str]; done) | (simp [mkAct, upd, f12, f6, str, *]; done)
                      · -- operation 14
                        obtain ⟨f13, f6, -⟩ := hp
                        replace f13 : u 13 = (.pointer (some ⟨w.heap.size, 0, none⟩)) := f13
                        replace f6 : u 6 = (.bool false) := f6
                        try simp only [f13, f6, str]
                        have cx := hI.cell (d0'.out)
                        go_wp2
                        refine stq_v rfl Same.refl ?_
                        first | (simp only [mkAct, List.foldl_cons, List.foldl_nil, List.setIfInBounds_toArray, List.set_cons_succ, List.set_cons_zero, upd, reduceIte, Nat.reduceEqDiff, Nat.reduceAdd, f13, f6, str]; done) | (simp [mkAct, upd, f13, f6, str, *]; done)
                      · -- operation 15
                        obtain ⟨f11, f14, f6, -⟩ := hp
                        replace f11 : u 11 = (.int .i64 x) := f11
                        replace f14 : u 14 = (.int .i64 N) := f14
                        replace f6 : u 6 = (.bool false) := f6
                        try simp only [f11, f14, f6, str]
                        go_wp2
                        refine stq_v rfl Same.refl ?_
                        first | (simp only [mkAct, List.foldl_cons, List.foldl_nil, List.setIfInBounds_toArray, List.set_cons_succ, List.set_cons_zero, upd, reduceIte, Nat.reduceEqDiff, Nat.reduceAdd, f11, f14, f6, str]; done) | (simp [mkAct, upd, f11, f14, f6, str, *]; done)
                      · -- operation 16
                        obtain ⟨f6, f15, -⟩ := hp
                        replace f6 : u 6 = (.bool false) := f6
                        replace f15 : u 15 = (.bool true) := f15
                        try simp only [f6, f15, str]
                        go_wp2
                        refine stq_v rfl Same.refl ?_
                        first | (simp only [mkAct, List.foldl_cons, List.foldl_nil, List.setIfInBounds_toArray, List.set_cons_succ, List.set_cons_zero, upd, reduceIte, Nat.reduceEqDiff, Nat.reduceAdd, f6, f15, str]; done) | (simp [mkAct, upd, f6, f15, str, *]; done)
                      · -- operation 17
                        obtain ⟨f16, -, -⟩ := hp
                        replace f16 : u 16 = (.bool true) := f16
                        try simp only [f16, str]
                        go_wp2
                        refine stq_v rfl Same.refl ?_
                        first | (simp only [mkAct, List.foldl_cons, List.foldl_nil, List.setIfInBounds_toArray, List.set_cons_succ, List.set_cons_zero, upd, reduceIte, Nat.reduceEqDiff, Nat.reduceAdd, f16, str]; done) | (simp [mkAct, upd, f16, str, *]; done)
                      · -- operation 18
                        obtain ⟨f17, -⟩ := hp
                        replace f17 : u 17 = (.bool true) := f17
                        try simp only [f17, str]
                        go_wp2
                        refine stq_v rfl Same.refl ?_
                        first | (simp only [mkAct, List.foldl_cons, List.foldl_nil, List.setIfInBounds_toArray, List.set_cons_succ, List.set_cons_zero, upd, reduceIte, Nat.reduceEqDiff, Nat.reduceAdd, f17, str]; done) | (simp [mkAct, upd, f17, str, *]; done)
                      · -- operation 19
                        obtain ⟨f18, f17, -⟩ := hp
                        replace f18 : u 18 = undef := f18
                        replace f17 : u 17 = (.bool true) := f17
                        try simp only [f18, f17, str]
                        go_wp2
                        refine stq_v rfl Same.refl ?_
                        first | (simp only [mkAct, List.foldl_cons, List.foldl_nil, List.setIfInBounds_toArray, List.set_cons_succ, List.set_cons_zero, upd, reduceIte, Nat.reduceEqDiff, Nat.reduceAdd, f18, f17, str]; done) | (simp [mkAct, upd, f18, f17, str, *]; done)
                      · -- operation 20
                        obtain ⟨f19, -, f17, -⟩ := hp
                        replace f19 : u 19 = undef := f19
                        replace f17 : u 17 = (.bool true) := f17
                        try simp only [f19, f17, str]
                        go_wp2
                        refine stq_v rfl Same.refl ?_
                        first | (simp only [mkAct, List.foldl_cons, List.foldl_nil, List.setIfInBounds_toArray, List.set_cons_succ, List.set_cons_zero, upd, reduceIte, Nat.reduceEqDiff, Nat.reduceAdd, f19, f17, str]; done) | (simp [mkAct, upd, f19, f17, str, *]; done)
                      · -- operation 21
                        obtain ⟨f20, -⟩ := hp
                        replace f20 : u 20 = undef := f20
                        try simp only [f20, str]
                        go_wp2
                        refine stq_v rfl Same.refl ?_
                        first | (simp only [mkAct, List.foldl_cons, List.foldl_nil, List.setIfInBounds_toArray, List.set_cons_succ, List.set_cons_zero, upd, reduceIte, Nat.reduceEqDiff, Nat.reduceAdd, f20, str]; done) | (simp [mkAct, upd, f20, str, *]; done)
                      · -- operation 22
                        obtain ⟨f21, f20, -⟩ := hp
                        replace f21 : u 21 = undef := f21
                        replace f20 : u 20 = undef := f20
                        try simp only [f21, f20, str]
                        go_wp2
                        refine stq_v rfl Same.refl ?_
                        first | (simp only [mkAct, List.foldl_cons, List.foldl_nil, List.setIfInBounds_toArray, List.set_cons_succ, List.set_cons_zero, upd, reduceIte, Nat.reduceEqDiff, Nat.reduceAdd, f21, f20, str]; done) | (simp [mkAct, upd, f21, f20, str, *]; done)
                      · -- operation 23
                        obtain ⟨f20, -⟩ := hp
                        replace f20 : u 20 = undef := f20
                        try simp only [f20, str]
                        go_wp2
                        refine stq_v rfl Same.refl ?_
                        first | (simp only [mkAct, List.foldl_cons, List.foldl_nil, List.setIfInBounds_toArray, List.set_cons_succ, List.set_cons_zero, upd, reduceIte, Nat.reduceEqDiff, Nat.reduceAdd, f20, str]; done) | (simp [mkAct, upd, f20, str, *]; done)
                      · -- operation 24
                        obtain ⟨f22, f23, f20, -⟩ := hp
                        replace f22 : u 22 = undef := f22
                        replace f23 : u 23 = undef := f23
                        replace f20 : u 20 = undef := f20
                        try simp only [f22, f23, f20, str]
                        go_wp2
                        refine stq_v rfl Same.refl ?_
                        first | (simp only [mkAct, List.foldl_cons, List.foldl_nil, List.setIfInBounds_toArray, List.set_cons_succ, List.set_cons_zero, upd, reduceIte, Nat.reduceEqDiff, Nat.reduceAdd, f22, f23, f20, str]; done) | (simp [mkAct, upd, f22, f23, f20, str, *]; done)
                      · -- operation 25
                        obtain ⟨f24, f20, -⟩ := hp
                        replace f24 : u 24 = undef := f24
                        replace f20 : u 20 = undef := f20
                        try simp only [f24, f20, str]
                        go_wp2
                        refine stq_v rfl Same.refl ?_
                        first | (simp only [mkAct, List.foldl_cons, List.foldl_nil, List.setIfInBounds_toArray, List.set_cons_succ, List.set_cons_zero, upd, reduceIte, Nat.reduceEqDiff, Nat.reduceAdd, f24, f20, str]; done) | (simp [mkAct, upd, f24, f20, str, *]; done)
                      · -- operation 26
                        obtain ⟨f20, -⟩ := hp
                        replace f20 : u 20 = undef := f20
                        try simp only [f20, str]
                        go_wp2
                        refine stq_v rfl Same.refl ?_
                        first | (simp only [mkAct, List.foldl_cons, List.foldl_nil, List.setIfInBounds_toArray, List.set_cons_succ, List.set_cons_zero, upd, reduceIte, Nat.reduceEqDiff, Nat.reduceAdd, f20, str]; done) | (simp [mkAct, upd, f20, str, *]; done)
                      · -- operation 27
                        obtain ⟨f26, f20, -⟩ := hp
                        replace f26 : u 26 = undef := f26
                        replace f20 : u 20 = undef := f20
                        try simp only [f26, f20, str]
                        go_wp2
                        refine stq_v rfl Same.refl ?_
                        first | (simp only [mkAct, List.foldl_cons, List.foldl_nil, List.setIfInBounds_toArray, List.set_cons_succ, List.set_cons_zero, upd, reduceIte, Nat.reduceEqDiff, Nat.reduceAdd, f26, f20, str]; done) | (simp [mkAct, upd, f26, f20, str, *]; done)
                      · -- operation 28
                        obtain ⟨f20, -⟩ := hp
                        replace f20 : u 20 = undef := f20
                        try simp only [f20, str]
                        go_wp2
                        refine stq_v rfl Same.refl ?_
                        first | (simp only [mkAct, List.foldl_cons, List.foldl_nil, List.setIfInBounds_toArray, List.set_cons_succ, List.set_cons_zero, upd, reduceIte, Nat.reduceEqDiff, Nat.reduceAdd, f20, str]; done) | (simp [mkAct, upd, f20, str, *]; done)
                      · -- operation 29
                        obtain ⟨f28, f20, -⟩ := hp
                        replace f28 : u 28 = undef := f28
                        replace f20 : u 20 = undef := f20
                        try simp only [f28, f20, str]
                        go_wp2
                        refine stq_v rfl Same.refl ?_
                        first | (simp only [mkAct, List.foldl_cons, List.foldl_nil, List.setIfInBounds_toArray, List.set_cons_succ, List.set_cons_zero, upd, reduceIte, Nat.reduceEqDiff, Nat.reduceAdd, f28, f20, str]; done) | (simp [mkAct, upd, f28, f20, str, *]; done)
                      · -- operation 30
                        obtain ⟨f27, f29, f20, -⟩ := hp
                        replace f27 : u 27 = undef := f27
                        replace f29 : u 29 = undef := f29
                        replace f20 : u 20 = undef := f20
                        try simp only [f27, f29, f20, str]
                        go_wp2
                        refine stq_v rfl Same.refl ?_
                        first | (simp only [mkAct, List.foldl_cons, List.foldl_nil, List.setIfInBounds_toArray, List.set_cons_succ, List.set_cons_zero, upd, reduceIte, Nat.reduceEqDiff, Nat.reduceAdd, f27, f29, f20, str]; done) | (simp [mkAct, upd, f27, f29, f20, str, *]; done)
                      · -- operation 31
                        obtain ⟨f30, f20, -⟩ := hp
                        replace f30 : u 30 = undef := f30
                        replace f20 : u 20 = undef := f20
                        try simp only [f30, f20, str]
                        go_wp2
                        refine stq_v rfl Same.refl ?_
                        first | (simp only [mkAct, List.foldl_cons, List.foldl_nil, List.setIfInBounds_toArray, List.set_cons_succ, List.set_cons_zero, upd, reduceIte, Nat.reduceEqDiff, Nat.reduceAdd, f30, f20, str]; done) | (simp [mkAct, upd, f30, f20, str, *]; done)
                      · -- operation 32
                        obtain ⟨f25, f31, f20, -⟩ := hp
                        replace f25 : u 25 = undef := f25
                        replace f31 : u 31 = undef := f31
                        replace f20 : u 20 = undef := f20
                        try simp only [f25, f31, f20, str]
                        go_wp2
                        refine stq_v rfl Same.refl ?_
                        first | (simp only [mkAct, List.foldl_cons, List.foldl_nil, List.setIfInBounds_toArray, List.set_cons_succ, List.set_cons_zero, upd, reduceIte, Nat.reduceEqDiff, Nat.reduceAdd, f25, f31, f20, str]; done) | (simp [mkAct, upd, f25, f31, f20, str, *]; done)
                      · -- operation 33
                        obtain ⟨f20, f32, f17, -⟩ := hp
                        replace f20 : u 20 = undef := f20
                        replace f32 : u 32 = undef := f32
                        replace f17 : u 17 = (.bool true) := f17
                        try simp only [f20, f32, f17, str]
                        go_wp2
                        refine stq_v rfl Same.refl ?_
                        first | (simp only [mkAct, List.foldl_cons, List.foldl_nil, List.setIfInBounds_toArray, List.set_cons_succ, List.set_cons_zero, upd, reduceIte, Nat.reduceEqDiff, Nat.reduceAdd, f20, f32, f17, str]; done) | (simp [mkAct, upd, f20, f32, f17, str, *]; done)
                      · -- operation 34
                        obtain ⟨f17, f33, -⟩ := hp
                        replace f17 : u 17 = (.bool true) := f17
                        replace f33 : u 33 = undef := f33
                        try simp only [f17, f33, str]
                        go_wp2
                        refine stq_v rfl Same.refl ?_
                        first | (simp only [mkAct, List.foldl_cons, List.foldl_nil, List.setIfInBounds_toArray, List.set_cons_succ, List.set_cons_zero, upd, reduceIte, Nat.reduceEqDiff, Nat.reduceAdd, f17, f33, str]; done) | (simp [mkAct, upd, f17, f33, str, *]; done)
                    · intro u wx hI hR
                      obtain ⟨r0, r1, r2, r3, r4, r5, r6, r7, r8, r9, r10, r11, r12, r13, r14, r15, r16, r17, r18, r19, r20, r21, r22, r23, r24, r25, r26, r27, r28, r29, r30, r31, r32, r33, r34, -⟩ := hR
                      replace r0 : u 0 = (.pointer (some ⟨w.heap.size, 12, none⟩)) := r0
                      replace r1 : u 1 = (.slice (some ⟨bk, off, none⟩) len cap) := r1
                      replace r2 : u 2 = (.int .i64 (k : Int)) := r2
                      replace r3 : u 3 = (.pointer (some ⟨bk, off + k, none⟩)) := r3
                      replace r4 : u 4 = (.int .i64 x) := r4
                      replace r5 : u 5 = (.bool false) := r5
                      replace r6 : u 6 = (.bool false) := r6
                      replace r7 : u 7 = (.pointer (some ⟨w.heap.size, 12, none⟩)) := r7
                      replace r8 : u 8 = (.slice (some ⟨bk, off, none⟩) len cap) := r8
                      replace r9 : u 9 = (.int .i64 (k : Int)) := r9
                      replace r10 : u 10 = (.pointer (some ⟨bk, off + k, none⟩)) := r10
                      replace r11 : u 11 = (.int .i64 x) := r11
                      replace r12 : u 12 = (.pointer (some ⟨w.heap.size, 0, none⟩)) := r12
                      replace r13 : u 13 = (.pointer (some ⟨w.heap.size, 0, none⟩)) := r13
                      replace r14 : u 14 = (.int .i64 N) := r14
                      replace r15 : u 15 = (.bool true) := r15
                      replace r16 : u 16 = (.bool true) := r16
                      replace r17 : u 17 = (.bool true) := r17
                      replace r18 : u 18 = undef := r18
                      replace r19 : u 19 = undef := r19
                      replace r20 : u 20 = undef := r20
                      replace r21 : u 21 = undef := r21
                      replace r22 : u 22 = undef := r22
                      replace r23 : u 23 = undef := r23
                      replace r24 : u 24 = undef := r24
                      replace r25 : u 25 = undef := r25
                      replace r26 : u 26 = undef := r26
                      replace r27 : u 27 = undef := r27
                      replace r28 : u 28 = undef := r28
                      replace r29 : u 29 = undef := r29
                      replace r30 : u 30 = undef := r30
                      replace r31 : u 31 = undef := r31
                      replace r32 : u 32 = undef := r32
                      replace r33 : u 33 = undef := r33
                      replace r34 : u 34 = (.bool true) := r34
                      simp only [mkAct, List.foldl_cons, List.foldl_nil, List.setIfInBounds_toArray, List.set_cons_succ, List.set_cons_zero]
                      try simp only [str, r0, r1, r2, r3, r4, r5, r6, r7, r8, r9, r10, r11, r12, r13, r14, r15, r16, r17, r18, r19, r20, r21, r22, r23, r24, r25, r26, r27, r28, r29, r30, r31, r32, r33, r34]
                      go_wp2_with fail
                      go_meet
                      exact ⟨rfl, hI⟩
                  case rest =>
                    obtain ⟨rfl, hsq⟩ := hcut
                    have hsR := hs.out.trans hsq
                    clear hsq cc d0' n3r
                    go_wp2
                    go_ret
                    exact ⟨by rw [hR2.out]; rfl, hs01.out.trans hsR⟩
              · rw [decide_eq_false (show ¬ lastOf l k < x by omega), Bool.false_and] at hst
                have hR2 : R = false := by rw [hR.out, hbk hst]; rfl
                clear hst hbk hsk hcell hx hxe hri hge hlo
                replace hR2 := Lib.hid hR2
                replace hs := Lib.hid hs
                replace cc := Lib.hid cc
                replace d0' := Lib.hid d0'
                go_upto_region 6 with fail
                replace n3r := Lib.hid n3r
                go_cut [68] (fun v wx => v = .bool true ∧ Same wr wx)
                case first =>
                  refine wp_region_facts (by kernel_rfl) [(34, 0), (35, 1), (36, 2), (37, 3), (38, 4), (39, 5), (40, 6), (41, 7), (42, 8), (43, 9), (44, 10), (45, 11), (46, 12), (47, 13), (48, 14), (49, 15), (50, 16), (51, 17), (52, 18), (53, 19), (54, 20), (55, 21), (56, 22), (57, 23), (58, 24), (59, 25), (60, 26), (61, 27), (62, 28), (63, 29), (64, 30), (65, 31), (66, 32), (67, 33), (68, 34)] Same (Same _) [isV (.pointer (some ⟨w.heap.size, 12, none⟩)), isV (.slice (some ⟨bk, off, none⟩) len cap), isV (.int .i64 (k : Int)), isV (.pointer (some ⟨bk, off + k, none⟩)), isV (.int .i64 x), isV (.bool true), isV (.bool true), isV undef, isV undef, isV undef, isV undef, isV undef, isV undef, isV undef, isV undef, isV undef, isV (.bool true), isV (.bool true), isV undef, isV undef, isV undef, isV undef, isV undef, isV undef, isV undef, isV undef, isV undef, isV undef, isV undef, isV undef, isV undef, isV undef, isV undef, isV undef, isV (.bool true)] Same.refl.drew (fun _ _ h k => h.trans k) (by simp [isV_stable, isB_stable, isAny_stable]) (by decide) (by decide) ?_ ?_
                  · refine ⟨?_, ?_, ?_, ?_, ?_, ?_, ?_, ?_, ?_, ?_, ?_, ?_, ?_, ?_, ?_, ?_, ?_, ?_, ?_, ?_, ?_, ?_, ?_, ?_, ?_, ?_, ?_, ?_, ?_, ?_, ?_, ?_, ?_, ?_, ?_, trivial⟩
                    all_goals (intro u wx hI hp; simp only [mkAct, List.foldl_cons, List.foldl_nil, List.setIfInBounds_toArray, List.set_cons_succ, List.set_cons_zero])
                    · -- operation 0
                      go_wp2
                      refine stq_v rfl Same.refl ?_
                      first | (simp only [mkAct, List.foldl_cons, List.foldl_nil, List.setIfInBounds_toArray, List.set_cons_succ, List.set_cons_zero, upd, reduceIte, Nat.reduceEqDiff, Nat.reduceAdd, str]; done) | (simp [mkAct, upd, str, *]; done)
                    · -- operation 1
                      obtain ⟨f0, -⟩ := hp
                      replace f0 : u 0 = (.pointer (some ⟨w.heap.size, 12, none⟩)) := f0
                      try simp only [f0, str]
                      have cx := hI.cell (n3r.out)
                      go_wp2
                      refine stq_v rfl Same.refl ?_
                      first | (simp only [mkAct, List.foldl_cons, List.foldl_nil, List.setIfInBounds_toArray, List.set_cons_succ, List.set_cons_zero, upd, reduceIte, Nat.reduceEqDiff, Nat.reduceAdd, f0, str]; done) | (simp [mkAct, upd, f0, str, *]; done)
                    · -- operation 2
                      go_wp2
                      refine stq_v rfl Same.refl ?_
                      first | (simp only [mkAct, List.foldl_cons, List.foldl_nil, List.setIfInBounds_toArray, List.set_cons_succ, List.set_cons_zero, upd, reduceIte, Nat.reduceEqDiff, Nat.reduceAdd, str]; done) | (simp [mkAct, upd, str, *]; done)
                    · -- operation 3
                      obtain ⟨f1, f2, -⟩ := hp
                      replace f1 : u 1 = (.slice (some ⟨bk, off, none⟩) len cap) := f1
                      replace f2 : u 2 = (.int .i64 (k : Int)) := f2
                      try simp only [f1, f2, str]
                      go_wp2
                      refine stq_v rfl Same.refl ?_
                      first | (simp only [mkAct, List.foldl_cons, List.foldl_nil, List.setIfInBounds_toArray, List.set_cons_succ, List.set_cons_zero, upd, reduceIte, Nat.reduceEqDiff, Nat.reduceAdd, f1, f2, str]; done) | (simp [mkAct, upd, f1, f2, str, *]; done)
                    · -- operation 4
                      obtain ⟨f3, -⟩ := hp
                      replace f3 : u 3 = (.pointer (some ⟨bk, off + k, none⟩)) := f3
                      try simp only [f3, str]
                      have cx := hI.cell (cc.out)
                      go_wp2
                      refine stq_v rfl Same.refl ?_
                      first | (simp only [mkAct, List.foldl_cons, List.foldl_nil, List.setIfInBounds_toArray, List.set_cons_succ, List.set_cons_zero, upd, reduceIte, Nat.reduceEqDiff, Nat.reduceAdd, f3, str]; done) | (simp [mkAct, upd, f3, str, *]; done)
                    · -- operation 5
                      obtain ⟨f4, -⟩ := hp
                      replace f4 : u 4 = (.int .i64 x) := f4
                      try simp only [f4, str]
                      go_wp2
                      refine stq_v rfl Same.refl ?_
                      first | (simp only [mkAct, List.foldl_cons, List.foldl_nil, List.setIfInBounds_toArray, List.set_cons_succ, List.set_cons_zero, upd, reduceIte, Nat.reduceEqDiff, Nat.reduceAdd, f4, str]; done) | (simp [mkAct, upd, f4, str, *]; done)
                    · -- operation 6
                      obtain ⟨f5, -⟩ := hp
                      replace f5 : u 5 = (.bool true) := f5
                      try simp only [f5, str]
                      go_wp2
                      refine stq_v rfl Same.refl ?_
                      first | (simp only [mkAct, List.foldl_cons, List.foldl_nil, List.setIfInBounds_toArray, List.set_cons_succ, List.set_cons_zero, upd, reduceIte, Nat.reduceEqDiff, Nat.reduceAdd, f5, str]; done) | (simp [mkAct, upd, f5, str, *]; done)
                    · -- operation 7
                      obtain ⟨f6, -⟩ := hp
                      replace f6 : u 6 = (.bool true) := f6
                      try simp only [f6, str]
                      go_wp2
                      refine stq_v rfl Same.refl ?_
                      first | (simp only [mkAct, List.foldl_cons, List.foldl_nil, List.setIfInBounds_toArray, List.set_cons_succ, List.set_cons_zero, upd, reduceIte, Nat.reduceEqDiff, Nat.reduceAdd, f6, str]; done) | (simp [mkAct, upd, f6, str, *]; done)
                    · -- operation 8
                      obtain ⟨f7, f6, -⟩ := hp
                      replace f7 : u 7 = undef := f7
                      replace f6 : u 6 = (.bool true) := f6
                      try simp only [f7, f6, str]
                      go_wp2
                      refine stq_v rfl Same.refl ?_
                      first | (simp only [mkAct, List.foldl_cons, List.foldl_nil, List.setIfInBounds_toArray, List.set_cons_succ, List.set_cons_zero, upd, reduceIte, Nat.reduceEqDiff, Nat.reduceAdd, f7, f6, str]; done) | (simp [mkAct, upd, f7, f6, str, *]; done)
                    · -- operation 9
                      obtain ⟨f6, -⟩ := hp
                      replace f6 : u 6 = (.bool true) := f6
                      try simp only [f6, str]
                      go_wp2
                      refine stq_v rfl Same.refl ?_
                      first | (simp only [mkAct, List.foldl_cons, List.foldl_nil, List.setIfInBounds_toArray, List.set_cons_succ, List.set_cons_zero, upd, reduceIte, Nat.reduceEqDiff, Nat.reduceAdd, f6, str]; done) | (simp [mkAct, upd, f6, str, *]; done)
                    · -- operation 10
                      obtain ⟨f8, f9, f6, -⟩ := hp
                      replace f8 : u 8 = undef := f8
                      replace f9 : u 9 = undef := f9
                      replace f6 : u 6 = (.bool true) := f6
                      try simp only [f8, f9, f6, str]
                      go_wp2
                      refine stq_v rfl Same.refl ?_
                      first | (simp only [mkAct, List.foldl_cons, List.foldl_nil, List.setIfInBounds_toArray, List.set_cons_succ, List.set_cons_zero, upd, reduceIte, Nat.reduceEqDiff, Nat.reduceAdd, f8, f9, f6, str]; done) | (simp [mkAct, upd, f8, f9, f6, str, *]; done)
                    · -- operation 11
                      obtain ⟨f10, f6, -⟩ := hp
                      replace f10 : u 10 = undef := f10
                      replace f6 : u 6 = (.bool true) := f6
                      try simp only [f10, f6, str]
                      go_wp2
                      refine stq_v rfl Same.refl ?_
                      first | (simp only [mkAct, List.foldl_cons, List.foldl_nil, List.setIfInBounds_toArray, List.set_cons_succ, List.set_cons_zero, upd, reduceIte, Nat.reduceEqDiff, Nat.reduceAdd, f10, f6, str]; done) | (simp [mkAct, upd, f10, f6, str, *]; done)
                    · -- operation 12
                      obtain ⟨f6, -⟩ := hp
                      replace f6 : u 6 = (.bool true) := f6
                      try simp only [f6, str]
                      go_wp2
                      refine stq_v rfl Same.refl ?_
                      first | (simp only [mkAct, List.foldl_cons, List.foldl_nil, List.setIfInBounds_toArray, List.set_cons_succ, List.set_cons_zero, upd, reduceIte, Nat.reduceEqDiff, Nat.reduceAdd, f6, str]; done) | (simp [mkAct, upd, f6, str, *]; done)
                    · -- operation 13
                      obtain ⟨f12, f6, -⟩ := hp
                      replace f12 : u 12 = undef := f12
                      replace f6 : u 6 = (.bool true) := f6
                      try simp only [f12, f6, str]
                      go_wp2
                      refine stq_v rfl Same.refl ?_
                      first | (simp only [mkAct, List.foldl_cons, List.foldl_nil, List.setIfInBounds_toArray, List.set_cons_succ, List.set_cons_zero, upd, reduceIte, Nat.reduceEqDiff, Nat.reduceAdd, f12, f6, str]; done) | (simp [mkAct, upd, f12, f6, str, *]; done)
                    · -- operation 14
                      obtain ⟨f13, f6, -⟩ := hp
                      replace f13 : u 13 = undef := f13
                      replace f6 : u 6 = (.bool true) := f6
                      try simp only [f13, f6, str]
                      go_wp2
                      refine stq_v rfl Same.refl ?_
                      first | (simp only [mkAct, List.foldl_cons, List.foldl_nil, List.setIfInBounds_toArray, List.set_cons_succ, List.set_cons_zero, upd, reduceIte, Nat.reduceEqDiff, Nat.reduceAdd, f13, f6, str]; done) | (simp [mkAct, upd, f13, f6, str, *]; done)
                    · -- operation 15
                      obtain ⟨f11, f14, f6, -⟩ := hp
                      replace f11 : u 11 = undef := f11
                      replace f14 : u 14 = undef := f14
                      replace f6 : u 6 = (.bool true) := f6
                      try simp only [f11, f14, f6, str]
                      go_wp2
                      refine stq_v rfl Same.refl ?_
                      first | (simp only [mkAct, List.foldl_cons, List.foldl_nil, List.setIfInBounds_toArray, List.set_cons_succ, List.set_cons_zero, upd, reduceIte, Nat.reduceEqDiff, Nat.reduceAdd, f11, f14, f6, str]; done) | (simp [mkAct, upd, f11, f14, f6, str, *]; done)
                    · -- operation 16
                      obtain ⟨f6, f15, -⟩ := hp
                      replace f6 : u 6 = (.bool true) := f6
                      replace f15 : u 15 = undef := f15
                      try simp only [f6, f15, str]
                      go_wp2
                      refine stq_v rfl Same.refl ?_
                      first | (simp only [mkAct, List.foldl_cons, List.foldl_nil, List.setIfInBounds_toArray, List.set_cons_succ, List.set_cons_zero, upd, reduceIte, Nat.reduceEqDiff, Nat.reduceAdd, f6, f15, str]; done) | (simp [mkAct, upd, f6, f15, str, *]; done)
                    · -- operation 17
                      obtain ⟨f16, -, -⟩ := hp
                      replace f16 : u 16 = (.bool true) := f16
                      try simp only [f16, str]
                      go_wp2
                      refine stq_v rfl Same.refl ?_
                      first | (simp only [mkAct, List.foldl_cons, List.foldl_nil, List.setIfInBounds_toArray, List.set_cons_succ, List.set_cons_zero, upd, reduceIte, Nat.reduceEqDiff, Nat.reduceAdd, f16, str]; done) | (simp [mkAct, upd, f16, str, *]; done)
                    · -- operation 18
                      obtain ⟨f17, -⟩ := hp
                      replace f17 : u 17 = (.bool true) := f17
                      try simp only [f17, str]
                      go_wp2
                      refine stq_v rfl Same.refl ?_
                      first | (simp only [mkAct, List.foldl_cons, List.foldl_nil, List.setIfInBounds_toArray, List.set_cons_succ, List.set_cons_zero, upd, reduceIte, Nat.reduceEqDiff, Nat.reduceAdd, f17, str]; done) | (simp [mkAct, upd, f17, str, *]; done)
                    · -- operation 19
                      obtain ⟨f18, f17, -⟩ := hp
                      replace f18 : u 18 = undef := f18
                      replace f17 : u 17 = (.bool true) := f17
                      try simp only [f18, f17, str]
                      go_wp2
                      refine stq_v rfl Same.refl ?_
                      first | (simp only [mkAct, List.foldl_cons, List.foldl_nil, List.setIfInBounds_toArray, List.set_cons_succ, List.set_cons_zero, upd, reduceIte, Nat.reduceEqDiff, Nat.reduceAdd, f18, f17, str]; done) | (simp [mkAct, upd, f18, f17, str, *]; done)
                    · -- operation 20
                      obtain ⟨f19, -, f17, -⟩ := hp
                      replace f19 : u 19 = undef := f19
                      replace f17 : u 17 = (.bool true) := f17
                      try simp only [f19, f17, str]
                      go_wp2
                      refine stq_v rfl Same.refl ?_
                      first | (simp only [mkAct, List.foldl_cons, List.foldl_nil, List.setIfInBounds_toArray, List.set_cons_succ, List.set_cons_zero, upd, reduceIte, Nat.reduceEqDiff, Nat.reduceAdd, f19, f17, str]; done) | (simp [mkAct, upd, f19, f17, str, *]; done)
                    · -- operation 21
                      obtain ⟨f20, -⟩ := hp
                      replace f20 : u 20 = undef := f20
                      try simp only [f20, str]
                      go_wp2
                      refine stq_v rfl Same.refl ?_
                      first | (simp only [mkAct, List.foldl_cons, List.foldl_nil, List.setIfInBounds_toArray, List.set_cons_succ, List.set_cons_zero, upd, reduceIte, Nat.reduceEqDiff, Nat.reduceAdd, f20, str]; done) | (simp [mkAct, upd, f20, str, *]; done)
                    · -- operation 22
                      obtain ⟨f21, f20, -⟩ := hp
                      replace f21 : u 21 = undef := f21
                      replace f20 : u 20 = undef := f20
                      try simp only [f21, f20, str]
                      go_wp2
                      refine stq_v rfl Same.refl ?_
                      first | (simp only [mkAct, List.foldl_cons, List.foldl_nil, List.setIfInBounds_toArray, List.set_cons_succ, List.set_cons_zero, upd, reduceIte, Nat.reduceEqDiff, Nat.reduceAdd, f21, f20, str]; done) | (simp [mkAct, upd, f21, f20, str, *]; done)
                    · -- operation 23
                      obtain ⟨f20, -⟩ := hp
                      replace f20 : u 20 = undef := f20
                      try simp only [f20, str]
                      go_wp2
                      refine stq_v rfl Same.refl ?_
                      first | (simp only [mkAct, List.foldl_cons, List.foldl_nil, List.setIfInBounds_toArray, List.set_cons_succ, List.set_cons_zero, upd, reduceIte, Nat.reduceEqDiff, Nat.reduceAdd, f20, str]; done) | (simp [mkAct, upd, f20, str, *]; done)
                    · -- operation 24
                      obtain ⟨f22, f23, f20, -⟩ := hp
                      replace f22 : u 22 = undef := f22
                      replace f23 : u 23 = undef := f23
                      replace f20 : u 20 = undef := f20
                      try simp only [f22, f23, f20, str]
                      go_wp2
                      refine stq_v rfl Same.refl ?_
                      first | (simp only [mkAct, List.foldl_cons, List.foldl_nil, List.setIfInBounds_toArray, List.set_cons_succ, List.set_cons_zero, upd, reduceIte, Nat.reduceEqDiff, Nat.reduceAdd, f22, f23, f20, str]; done) | (simp [mkAct, upd, f22, f23, f20, str, *]; done)
                    · -- operation 25
                      obtain ⟨f24, f20, -⟩ := hp
                      replace f24 : u 24 = undef := f24
                      replace f20 : u 20 = undef := f20
                      try simp only [f24, f20, str]
                      go_wp2
                      refine stq_v rfl Same.refl ?_
                      first | (simp only [mkAct, List.foldl_cons, List.foldl_nil, List.setIfInBounds_toArray, List.set_cons_succ, List.set_cons_zero, upd, reduceIte, Nat.reduceEqDiff, Nat.reduceAdd, f24, f20, str]; done) | (simp [mkAct, upd, f24, f20, str, *]; done)
                    · -- operation 26
                      obtain ⟨f20, -⟩ := hp
                      replace f20 : u 20 = undef := f20
                      try simp only [f20, str]
                      go_wp2
                      refine stq_v rfl Same.refl ?_
                      first | (simp only [mkAct, List.foldl_cons, List.foldl_nil, List.setIfInBounds_toArray, List.set_cons_succ, List.set_cons_zero, upd, reduceIte, Nat.reduceEqDiff, Nat.reduceAdd, f20, str]; done) | (simp [mkAct, upd, f20, str, *]; done)
                    · -- operation 27
                      obtain ⟨f26, f20, -⟩ := hp
                      replace f26 : u 26 = undef := f26
                      replace f20 : u 20 = undef := f20
                      try simp only [f26, f20, str]
                      go_wp2
                      refine stq_v rfl Same.refl ?_
                      first | (simp only [mkAct, List.foldl_cons, List.foldl_nil, List.setIfInBounds_toArray, List.set_cons_succ, List.set_cons_zero, upd, reduceIte, Nat.reduceEqDiff, Nat.reduceAdd, f26, f20, str]; done) | (simp [mkAct, upd, f26, f20, str, *]; done)
                    · -- operation 28
                      obtain ⟨f20, -⟩ := hp
                      replace f20 : u 20 = undef := f20
                      try simp only [f20, str]
                      go_wp2
                      refine stq_v rfl Same.refl ?_
                      first | (simp only [mkAct, List.foldl_cons, List.foldl_nil, List.setIfInBounds_toArray, List.set_cons_succ, List.set_cons_zero, upd, reduceIte, Nat.reduceEqDiff, Nat.reduceAdd, f20, str]; done) | (simp [mkAct, upd, f20, str, *]; done)
                    · -- operation 29
                      obtain ⟨f28, f20, -⟩ := hp
                      replace f28 : u 28 = undef := f28
                      replace f20 : u 20 = undef := f20
                      try simp only [f28, f20, str]
                      go_wp2
                      refine stq_v rfl Same.refl ?_
                      first | (simp only [mkAct, List.foldl_cons, List.foldl_nil, List.setIfInBounds_toArray, List.set_cons_succ, List.set_cons_zero, upd, reduceIte, Nat.reduceEqDiff, Nat.reduceAdd, f28, f20, str]; done) | (simp [mkAct, upd, f28, f20, str, *]; done)
                    · -- operation 30
                      obtain ⟨f27, f29, f20, -⟩ := hp
                      replace f27 : u 27 = undef := f27
                      replace f29 : u 29 = undef := f29
                      replace f20 : u 20 = undef := f20
                      try simp only [f27, f29, f20, str]
                      go_wp2
                      refine stq_v rfl Same.refl ?_
                      first | (simp only [mkAct, List.foldl_cons, List.foldl_nil, List.setIfInBounds_toArray, List.set_cons_succ, List.set_cons_zero, upd, reduceIte, Nat.reduceEqDiff, Nat.reduceAdd, f27, f29, f20, str]; done) | (simp [mkAct, upd, f27, f29, f20, str, *]; done)
                    · -- operation 31
                      obtain ⟨f30, f20, -⟩ := hp
                      replace f30 : u 30 = undef := f30
                      replace f20 : u 20 = undef := f20
                      try simp only [f30, f20, str]
                      go_wp2
                      refine stq_v rfl Same.refl ?_
                      first | (simp only [mkAct, List.foldl_cons, List.foldl_nil, List.setIfInBounds_toArray, List.set_cons_succ, List.set_cons_zero, upd, reduceIte, Nat.reduceEqDiff, Nat.reduceAdd, f30, f20, str]; done) | (simp [mkAct, upd, f30, f20, str, *]; done)
                    · -- operation 32
                      obtain ⟨f25, f31, f20, -⟩ := hp
                      replace f25 : u 25 = undef := f25
                      replace f31 : u 31 = undef := f31
                      replace f20 : u 20 = undef := f20
                      try simp only [f25, f31, f20, str]
                      go_wp2
                      refine stq_v rfl Same.refl ?_
                      first | (simp only [mkAct, List.foldl_cons, List.foldl_nil, List.setIfInBounds_toArray, List.set_cons_succ, List.set_cons_zero, upd, reduceIte, Nat.reduceEqDiff, Nat.reduceAdd, f25, f31, f20, str]; done) | (simp [mkAct, upd, f25, f31, f20, str, *]; done)
                    · -- operation 33
                      obtain ⟨f20, f32, f17, -⟩ := hp
                      replace f20 : u 20 = undef := f20
                      replace f32 : u 32 = undef := f32
                      replace f17 : u 17 = (.bool true) := f17
                      try simp only [f20, f32, f17, str]
                      go_wp2
                      refine stq_v rfl Same.refl ?_
                      first | (simp only [mkAct, List.foldl_cons, List.foldl_nil, List.setIfInBounds_toArray, List.set_cons_succ, List.set_cons_zero, upd, reduceIte, Nat.reduceEqDiff, Nat.reduceAdd, f20, f32, f17, str]; done) | (simp [mkAct, upd, f20, f32, f17, str, *]; done)
                    · -- operation 34
                      obtain ⟨f17, f33, -⟩ := hp
                      replace f17 : u 17 = (.bool true) := f17
                      replace f33 : u 33 = undef := f33
                      try simp only [f17, f33, str]
                      go_wp2
                      refine stq_v rfl Same.refl ?_
                      first | (simp only [mkAct, List.foldl_cons, List.foldl_nil, List.setIfInBounds_toArray, List.set_cons_succ, List.set_cons_zero, upd, reduceIte, Nat.reduceEqDiff, Nat.reduceAdd, f17, f33, str]; done) | (simp [mkAct, upd, f17, f33, str, *]; done)
                  · intro u wx hI hR
                    obtain ⟨r0, r1, r2, r3, r4, r5, r6, r7, r8, r9, r10, r11, r12, r13, r14, r15, r16, r17, r18, r19, r20, r21, r22, r23, r24, r25, r26, r27, r28, r29, r30, r31, r32, r33, r34, -⟩ := hR
                    replace r0 : u 0 = (.pointer (some ⟨w.heap.size, 12, none⟩)) := r0
                    replace r1 : u 1 = (.slice (some ⟨bk, off, none⟩) len cap) := r1
                    replace r2 : u 2 = (.int .i64 (k : Int)) := r2
                    replace r3 : u 3 = (.pointer (some ⟨bk, off + k, none⟩)) := r3
                    replace r4 : u 4 = (.int .i64 x) := r4
                    replace r5 : u 5 = (.bool true) := r5
                    replace r6 : u 6 = (.bool true) := r6
                    replace r7 : u 7 = undef := r7
                    replace r8 : u 8 = undef := r8
                    replace r9 : u 9 = undef := r9
                    replace r10 : u 10 = undef := r10
                    replace r11 : u 11 = undef := r11
                    replace r12 : u 12 = undef := r12
                    replace r13 : u 13 = undef := r13
                    replace r14 : u 14 = undef := r14
                    replace r15 : u 15 = undef := r15
                    replace r16 : u 16 = (.bool true) := r16
                    replace r17 : u 17 = (.bool true) := r17
                    replace r18 : u 18 = undef := r18
                    replace r19 : u 19 = undef := r19
                    replace r20 : u 20 = undef := r20
                    replace r21 : u 21 = undef := r21
                    replace r22 : u 22 = undef := r22
                    replace r23 : u 23 = undef := r23
                    replace r24 : u 24 = undef := r24
                    replace r25 : u 25 = undef := r25
                    replace r26 : u 26 = undef := r26
                    replace r27 : u 27 = undef := r27
                    replace r28 : u 28 = undef := r28
                    replace r29 : u 29 = undef := r29
                    replace r30 : u 30 = undef := r30
                    replace r31 : u 31 = undef := r31
                    replace r32 : u 32 = undef := r32
                    replace r33 : u 33 = undef := r33
                    replace r34 : u 34 = (.bool true) := r34
                    simp only [mkAct, List.foldl_cons, List.foldl_nil, List.setIfInBounds_toArray, List.set_cons_succ, List.set_cons_zero]
                    try simp only [str, r0, r1, r2, r3, r4, r5, r6, r7, r8, r9, r10, r11, r12, r13, r14, r15, r16, r17, r18, r19, r20, r21, r22, r23, r24, r25, r26, r27, r28, r29, r30, r31, r32, r33, r34]
                    go_wp2_with fail
                    go_meet
                    exact ⟨rfl, hI⟩
                case rest =>
                  obtain ⟨rfl, hsq⟩ := hcut
                  have hsR := hs.out.trans hsq
                  clear hsq cc d0' n3r
                  go_wp2
                  go_ret
                  exact ⟨by rw [hR2.out]; rfl, hs01.out.trans hsR⟩
            · obtain rfl : k = len := by omega
              have hR2 := hR.out
              rw [hri, Bool.true_and] at hR2
              have hkN : (k : Int) ≤ N := by
                rw [← hll]
                exact riseTo_len l N (by rw [hll]; exact hri) (by omega)
              have hbx2 := (hs.block _ (blk_lt hbx1.out)).trans hbx1.out
              have hw2 := hs01.out.trans hs
              have e1 := ep_start hbx2
              obtain ⟨s, hse⟩ : ∃ s, s = c.slots := ⟨_, rfl⟩
              have e5 : wr.cell? ⟨w.heap.size, 5, none⟩ = some (.int .i64 s) := by rw [hse]; exact ep_cell hbx2 5 (by omega)
              rw [← hse] at hR2 k3 k4
              have hm1 : 0 ≤ (k : Int) * s := Int.mul_nonneg (by omega) (by omega)
              have hm2 : (k : Int) * s ≤ 64 * 4 := Int.mul_le_mul (by omega) k4 (by omega) (by omega)
              clear hs hri hs01 hbx1 hbx2
              replace hse := Lib.hid hse
              replace hw2 := Lib.hid hw2
              replace hR2 := Lib.hid hR2
              replace hll := Lib.hid hll
              by_cases h4 : 1 ≤ start
              · have hR3 : R = decide (start ≤ 1099511627776 - (k : Int) * s) := by rw [hR2.out, decide_eq_true h4]; rfl
                replace hR3 := Lib.hid hR3
                go_wp2
                go_ret
                exact ⟨by rw [hR3.out]; rfl, hw2.out⟩
              · have hR3 : R = false := by rw [hR2.out, decide_eq_false h4]; rfl
                replace hR3 := Lib.hid hR3
                go_wp2
                go_ret
                exact ⟨by rw [hR3.out]; rfl, hw2.out⟩
        · have hR2 : R = false := by rw [hR, hc, decide_eq_false h3]; simp
          obtain rfl : len = 0 := by omega
          clear hR hc
          replace hR2 := Lib.hid hR2
          go_enter Try.func57, Try.ntmps57
          go_upto_region 1 with (refine box_row rfl _ _ rfl _ rfl hinf.out ?_; intro w0 hbx hs0; replace hs0 := Lib.hid hs0)
          have hrg := ep_cfg hbx
          have hbxl := blk_lt hbx
          have n1 := ep_number hbx
          have n2 : w0.cell? ⟨w.heap.size, 9, none⟩ = some (.int .i64 la) := by rw [hla.out]; exact ep_cell hbx 9 (by omega)
          have n3 := ep_leaders hbx
          replace hrg := Lib.hid hrg
          replace hbx := Lib.hid hbx
          replace n1 := Lib.hid n1
          replace n2 := Lib.hid n2
          replace n3 := Lib.hid n3
          go_wp2_with (refine load_mid rfl _ _ rfl w.heap.size 0 rfl c.cells _ hrg.out Try.underlying68 rfl hinfL.out ?_)
          refine (hcg.out _).mono ?_
          rintro e w1 ⟨rfl, hs1⟩
          have n1' := hs1.cell n1.out
          have n2' := hs1.cell n2.out
          have n3' := hs1.cell n3.out
          go_wp2
          go_ret
          exact ⟨by rw [hR2.out]; rfl, hs0.out.trans hs1⟩
      · have hR2 : R = false := by rw [hR, hc, decide_eq_false h2]; simp
        clear hR hc
        replace hR2 := Lib.hid hR2
        go_enter Try.func57, Try.ntmps57
        go_upto_region 1 with (refine box_row rfl _ _ rfl _ rfl hinf.out ?_; intro w0 hbx hs0; replace hs0 := Lib.hid hs0)
        have hrg := ep_cfg hbx
        have hbxl := blk_lt hbx
        have n1 := ep_number hbx
        have n2 : w0.cell? ⟨w.heap.size, 9, none⟩ = some (.int .i64 la) := by rw [hla.out]; exact ep_cell hbx 9 (by omega)
        have n3 := ep_leaders hbx
        replace hrg := Lib.hid hrg
        replace hbx := Lib.hid hbx
        replace n1 := Lib.hid n1
        replace n2 := Lib.hid n2
        replace n3 := Lib.hid n3
        go_wp2_with (refine load_mid rfl _ _ rfl w.heap.size 0 rfl c.cells _ hrg.out Try.underlying68 rfl hinfL.out ?_)
        refine (hcg.out _).mono ?_
        rintro e w1 ⟨rfl, hs1⟩
        have n1' := hs1.cell n1.out
        have n2' := hs1.cell n2.out
        have n3' := hs1.cell n3.out
        go_wp2
        go_ret
        exact ⟨by rw [hR2.out]; rfl, hs0.out.trans hs1⟩
    · have hR2 : R = false := by rw [hR, hc, decide_eq_false h1]; simp
      clear hR hc
      replace hR2 := Lib.hid hR2
      go_enter Try.func57, Try.ntmps57
      go_upto_region 1 with (refine box_row rfl _ _ rfl _ rfl hinf.out ?_; intro w0 hbx hs0; replace hs0 := Lib.hid hs0)
      have hrg := ep_cfg hbx
      have hbxl := blk_lt hbx
      have n1 := ep_number hbx
      have n2 : w0.cell? ⟨w.heap.size, 9, none⟩ = some (.int .i64 la) := by rw [hla.out]; exact ep_cell hbx 9 (by omega)
      have n3 := ep_leaders hbx
      replace hrg := Lib.hid hrg
      replace hbx := Lib.hid hbx
      replace n1 := Lib.hid n1
      replace n2 := Lib.hid n2
      replace n3 := Lib.hid n3
      go_wp2_with (refine load_mid rfl _ _ rfl w.heap.size 0 rfl c.cells _ hrg.out Try.underlying68 rfl hinfL.out ?_)
      refine (hcg.out _).mono ?_
      rintro e w1 ⟨rfl, hs1⟩
      have n1' := hs1.cell n1.out
      have n2' := hs1.cell n2.out
      have n3' := hs1.cell n3.out
      go_wp2
      go_ret
      exact ⟨by rw [hR2.out]; rfl, hs0.out.trans hs1⟩
end Go.Proofs.Ytmacgmmjgdmleaa
