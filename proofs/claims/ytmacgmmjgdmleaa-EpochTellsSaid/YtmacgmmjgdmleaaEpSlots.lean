/-
  An epoch's slots: Owner, Slots, Primary.
-/
import Derived.Test.YtmacgmmjgdmleaaEpAsk
namespace Go.Proofs.Ytmacgmmjgdmleaa
open Go Go.RowKit
set_option linter.unusedSimpArgs false
set_option linter.unusedVariables false

def eowner (c : Cfg) (number start : Int) (l : List Int) (slot : Int) : Int := if (egood c number start l && ehas c start l slot) = true then l.getD ((slot - start).toNat % l.length) 0 else -1
def eprimary (c : Cfg) (number start : Int) (l : List Int) (leader view : Int) : Int := if (egood c number start l && eleads l leader) = true ∧ 0 ≤ view ∧ view ≤ 1099511627776 then (leader + view) % c.nodes else -1
def slotsTo (start : Int) (l : List Int) (leader : Int) (k : Nat) : List Int := ((List.range k).filter fun i => decide (l.getD (i % l.length) 0 = leader)).map fun i : Nat => start + i
def eslots (c : Cfg) (number start : Int) (l : List Int) (leader : Int) : List Int := if (egood c number start l && eleads l leader) = true then slotsTo start l leader (esize c l).toNat else []
theorem slotsTo_succ (start : Int) (l : List Int) (leader : Int) (k : Nat) : slotsTo start l leader (k + 1) = if l.getD (k % l.length) 0 = leader then slotsTo start l leader k ++ [start + k] else slotsTo start l leader k := by
  unfold slotsTo
  rw [List.range_succ, List.filter_append, List.map_append]
  by_cases h : l.getD (k % l.length) 0 = leader
  · rw [if_pos h]
    simp only [List.filter_cons, List.filter_nil, decide_eq_true h, if_true]
    rfl
  · rw [if_neg h]
    simp only [List.filter_cons, List.filter_nil, decide_eq_false h, Bool.false_eq_true, if_false, List.map_nil, List.append_nil]
theorem slotsTo_le (start : Int) (l : List Int) (leader : Int) (k : Nat) : (slotsTo start l leader k).length ≤ k := by
  unfold slotsTo
  rw [List.length_map]
  have := List.length_filter_le (fun i => decide (l.getD (i % l.length) 0 = leader)) (List.range k)
  simpa using this
theorem tmod_nat (a b : Nat) : (a : Int).tmod (b : Int) = ((a % b : Nat) : Int) := by
  rw [Int.tmod_eq_emod_of_nonneg (by omega)]
  rfl
set_option maxRecDepth 100000 in
set_option maxHeartbeats 1600000 in
theorem eowner_any (c : Cfg) (number start : Int) (ao : Option Addr) (cap : Nat) (l : List Int) (slot : Int) (w : World) (hsl : Sl w 1 ao l.length cap (iv l)) (hb1 : slot ≤ 9223372036854775807) (hb2 : -9223372036854775808 ≤ slot) :
    Calls Try.prog 62 #[.agg (epC c number start ao l.length cap).toArray, .int .i64 slot] w fun e w' => e = .returned (.int .i64 (eowner c number start l slot)) ∧ Same w w' := by
  have hinf := Lib.hid (ep_info c number start ao l.length cap)
  have hask := fun w h => asked_has c number start ao cap l slot w h hb1 hb2
  unfold eowner
  replace hsl := Lib.hid hsl
  cases hG : (egood c number start l && ehas c start l slot)
  · rw [hG] at hask
    rw [if_neg (by simp)]
    replace hask := Lib.hid hask
    clear hG
    go_enter Try.func62, Try.ntmps62
    go_upto_region 1 with (refine box_row rfl _ _ rfl _ rfl hinf.out ?_; intro w0 hbx hs0; replace hs0 := Lib.hid hs0; replace hbx := Lib.hid hbx)
    go_wp2_with (refine load_row rfl _ _ rfl w.heap.size rfl _ _ _ _ hbx.out Try.underlying124 rfl hinf.out ?_)
    refine (hask.out _ (hsl.out.same hs0.out)).mono ?_
    rintro e w1 ⟨rfl, hs1⟩
    go_wp2
    go_ret
    exact ⟨rfl, hs0.out.trans hs1⟩
  · have hG2 := hG
    simp only [Bool.and_eq_true] at hG2
    have hok := egood_ok hG2.1
    have hhas := hG2.2
    simp only [ehas, Bool.and_eq_true, decide_eq_true_eq] at hhas
    rw [hG] at hask
    rw [if_pos (by simp)]
    replace hask := Lib.hid hask
    obtain ⟨D, hD⟩ : ∃ D : Nat, slot - start = (D : Int) := ⟨(slot - start).toNat, by omega⟩
    have hl1 := hok.l1
    have hz2 := hok.z2
    have hwr : IntKind.i64.wrap (slot - start) = (D : Int) := by rw [hD]; exact IntWalk.i64_in _ ⟨by omega, by omega⟩
    obtain ⟨m, hm⟩ : ∃ m, m = D % l.length := ⟨_, rfl⟩
    have hml : m < l.length := by rw [hm]; exact Nat.mod_lt _ hl1
    have hmod : (D : Int).tmod (l.length : Int) = (m : Int) := by rw [tmod_nat, hm]
    rw [hD, Int.toNat_natCast, ← hm]
    obtain ⟨bk, off, rfl, _, hcell⟩ := hsl.out.at (by intro h2; rw [iv, List.map_eq_nil_iff] at h2; rw [h2] at hl1; simp at hl1)
    have cc := hcell m _ (iv_get hml)
    have hx : l[m]'hml = l.getD m 0 := by simp [List.getD, hml]
    rw [hx] at cc
    obtain ⟨x, hxe⟩ : ∃ x, x = l.getD m 0 := ⟨_, rfl⟩
    rw [← hxe] at cc ⊢
    have hcap := hsl.out.cap
    obtain ⟨n, hn⟩ : ∃ n, n = l.length := ⟨_, rfl⟩
    have hz : ((n : Int) == 0) = false := by simp; omega
    rw [← hn] at hmod hml hcap
    have q0 : 0 ≤ (m : Int) := by omega
    have q1 : (m : Int) < (n : Int) := by omega
    clear hG hG2 hok hhas hx hxe hcell hm hl1 hz2
    replace cc := Lib.hid cc
    replace hwr := Lib.hid hwr
    replace hmod := Lib.hid hmod
    replace hD := Lib.hid hD
    rw [← hn] at hinf hask hsl ⊢
    replace hn := Lib.hid hn
    go_enter Try.func62, Try.ntmps62
    go_upto_region 1 with (refine box_row rfl _ _ rfl _ rfl hinf.out ?_; intro w0 hbx hs0; have hbxl := blk_lt hbx; replace hs0 := Lib.hid hs0; replace hbx := Lib.hid hbx)
    go_wp2_with (refine load_row rfl _ _ rfl w.heap.size rfl _ _ _ _ hbx.out Try.underlying124 rfl hinf.out ?_)
    refine (hask.out _ (hsl.out.same hs0.out)).mono ?_
    rintro e w1 ⟨rfl, hs1⟩
    have hbx1 := (hs1.block _ hbxl).trans hbx.out
    have hw1 := hs0.out.trans hs1
    have e1 := ep_start hbx1
    have e2 := ep_leaders hbx1
    have cc1 := hw1.cell cc.out
    clear hs1 hs0 hbx hbx1 cc
    replace hw1 := Lib.hid hw1
    replace e1 := Lib.hid e1
    replace e2 := Lib.hid e2
    replace cc1 := Lib.hid cc1
    go_upto_region 3 with fail
    refine wp_region_tails (by kernel_rfl) [(9, 0), (10, 1), (11, 2), (12, 3), (13, 4), (14, 5), (15, 6), (16, 7), (17, 8), (18, 9), (19, 10), (20, 11)] Same (Same _) [isV (.pointer (some ⟨w.heap.size, 12, none⟩)), isV (.slice (some ⟨bk, off, none⟩) n cap), isV (.int .i64 slot), isV (.pointer (some ⟨w.heap.size, 11, none⟩)), isV (.int .i64 start), isV (.int .i64 (D : Int)), isV (.pointer (some ⟨w.heap.size, 12, none⟩)), isV (.slice (some ⟨bk, off, none⟩) n cap), isV (.int .i64 (n : Int)), isV (.int .i64 (m : Int)), isV (.pointer (some ⟨bk, off + m, none⟩)), isV (.int .i64 x)] Same.refl.drew (fun _ _ h k => h.trans k) (by simp [isV_stable, isB_stable, isAny_stable]) (by decide) (l := [_, _, _, _, _, _, _, _, _, _, _, _]) rfl (by decide) (by kernel_rfl) ?_ ?_
    · refine ⟨?_, ?_, ?_, ?_, ?_, ?_, ?_, ?_, ?_, ?_, ?_, ?_, trivial⟩
      all_goals (intro u wx hI hp; simp only [mkAct, List.foldl_cons, List.foldl_nil, List.setIfInBounds_toArray, List.set_cons_succ, List.set_cons_zero])
      · -- operation 0
        go_wp2
        refine stq_v rfl Same.refl ?_
        first | (simp only [mkAct, List.foldl_cons, List.foldl_nil, List.setIfInBounds_toArray, List.set_cons_succ, List.set_cons_zero, upd, reduceIte, Nat.reduceEqDiff, Nat.reduceAdd, str]; done) | (simp [mkAct, upd, str, *]; done)
      · -- operation 1
        obtain ⟨f0, -⟩ := hp
        replace f0 : u 0 = (.pointer (some ⟨w.heap.size, 12, none⟩)) := f0
        try simp only [f0, str]
        have cx := hI.cell (e2.out)
        go_wp2
        refine stq_v rfl Same.refl ?_
        first | (simp only [mkAct, List.foldl_cons, List.foldl_nil, List.setIfInBounds_toArray, List.set_cons_succ, List.set_cons_zero, upd, reduceIte, Nat.reduceEqDiff, Nat.reduceAdd, f0, str]; done) | (simp [mkAct, upd, f0, str, *]; done)
      · -- operation 2
        go_wp2
        refine stq_v rfl Same.refl ?_
        first | (simp only [mkAct, List.foldl_cons, List.foldl_nil, List.setIfInBounds_toArray, List.set_cons_succ, List.set_cons_zero, upd, reduceIte, Nat.reduceEqDiff, Nat.reduceAdd, str]; done) | (simp [mkAct, upd, str, *]; done)
      · -- operation 3
        go_wp2
        refine stq_v rfl Same.refl ?_
        first | (simp only [mkAct, List.foldl_cons, List.foldl_nil, List.setIfInBounds_toArray, List.set_cons_succ, List.set_cons_zero, upd, reduceIte, Nat.reduceEqDiff, Nat.reduceAdd, str]; done) | (simp [mkAct, upd, str, *]; done)
      · -- operation 4
        obtain ⟨f3, -⟩ := hp
        replace f3 : u 3 = (.pointer (some ⟨w.heap.size, 11, none⟩)) := f3
        try simp only [f3, str]
        have cx := hI.cell (e1.out)
        go_wp2
        refine stq_v rfl Same.refl ?_
        first | (simp only [mkAct, List.foldl_cons, List.foldl_nil, List.setIfInBounds_toArray, List.set_cons_succ, List.set_cons_zero, upd, reduceIte, Nat.reduceEqDiff, Nat.reduceAdd, f3, str]; done) | (simp [mkAct, upd, f3, str, *]; done)
      · -- operation 5
        obtain ⟨f2, f4, -⟩ := hp
        replace f2 : u 2 = (.int .i64 slot) := f2
        replace f4 : u 4 = (.int .i64 start) := f4
        try simp only [f2, f4, str]
        have hwr := hwr.out
        go_wp2
        refine stq_v rfl Same.refl ?_
        first | (simp only [mkAct, List.foldl_cons, List.foldl_nil, List.setIfInBounds_toArray, List.set_cons_succ, List.set_cons_zero, upd, reduceIte, Nat.reduceEqDiff, Nat.reduceAdd, f2, f4, str]; done) | (simp [mkAct, upd, f2, f4, str, *]; done)
      · -- operation 6
        go_wp2
        refine stq_v rfl Same.refl ?_
        first | (simp only [mkAct, List.foldl_cons, List.foldl_nil, List.setIfInBounds_toArray, List.set_cons_succ, List.set_cons_zero, upd, reduceIte, Nat.reduceEqDiff, Nat.reduceAdd, str]; done) | (simp [mkAct, upd, str, *]; done)
      · -- operation 7
        obtain ⟨f6, -⟩ := hp
        replace f6 : u 6 = (.pointer (some ⟨w.heap.size, 12, none⟩)) := f6
        try simp only [f6, str]
        have cx := hI.cell (e2.out)
        go_wp2
        refine stq_v rfl Same.refl ?_
        first | (simp only [mkAct, List.foldl_cons, List.foldl_nil, List.setIfInBounds_toArray, List.set_cons_succ, List.set_cons_zero, upd, reduceIte, Nat.reduceEqDiff, Nat.reduceAdd, f6, str]; done) | (simp [mkAct, upd, f6, str, *]; done)
      · -- operation 8
        obtain ⟨f7, -⟩ := hp
        replace f7 : u 7 = (.slice (some ⟨bk, off, none⟩) n cap) := f7
        try simp only [f7, str]
        go_wp2
        refine stq_v rfl Same.refl ?_
        first | (simp only [mkAct, List.foldl_cons, List.foldl_nil, List.setIfInBounds_toArray, List.set_cons_succ, List.set_cons_zero, upd, reduceIte, Nat.reduceEqDiff, Nat.reduceAdd, f7, str]; done) | (simp [mkAct, upd, f7, str, *]; done)
      · -- operation 9
        obtain ⟨f5, f8, -⟩ := hp
        replace f5 : u 5 = (.int .i64 (D : Int)) := f5
        replace f8 : u 8 = (.int .i64 (n : Int)) := f8
        try simp only [f5, f8, str]
        have hmod := hmod.out
        go_wp2
        refine stq_v rfl Same.refl ?_
        first | (simp only [mkAct, List.foldl_cons, List.foldl_nil, List.setIfInBounds_toArray, List.set_cons_succ, List.set_cons_zero, upd, reduceIte, Nat.reduceEqDiff, Nat.reduceAdd, f5, f8, str]; done) | (simp [mkAct, upd, f5, f8, str, *]; done)
      · -- operation 10
        obtain ⟨f1, f9, -⟩ := hp
        replace f1 : u 1 = (.slice (some ⟨bk, off, none⟩) n cap) := f1
        replace f9 : u 9 = (.int .i64 (m : Int)) := f9
        try simp only [f1, f9, str]
        go_wp2
        refine stq_v rfl Same.refl ?_
        first | (simp only [mkAct, List.foldl_cons, List.foldl_nil, List.setIfInBounds_toArray, List.set_cons_succ, List.set_cons_zero, upd, reduceIte, Nat.reduceEqDiff, Nat.reduceAdd, f1, f9, str]; done) | (simp [mkAct, upd, f1, f9, str, *]; done)
      · -- operation 11
        obtain ⟨f10, -⟩ := hp
        replace f10 : u 10 = (.pointer (some ⟨bk, off + m, none⟩)) := f10
        try simp only [f10, str]
        have cx := hI.cell (cc1.out)
        go_wp2
        refine stq_v rfl Same.refl ?_
        first | (simp only [mkAct, List.foldl_cons, List.foldl_nil, List.setIfInBounds_toArray, List.set_cons_succ, List.set_cons_zero, upd, reduceIte, Nat.reduceEqDiff, Nat.reduceAdd, f10, str]; done) | (simp [mkAct, upd, f10, str, *]; done)
    · intro u wx hI hR
      obtain ⟨r0, r1, r2, r3, r4, r5, r6, r7, r8, r9, r10, r11, -⟩ := hR
      replace r0 : u 0 = (.pointer (some ⟨w.heap.size, 12, none⟩)) := r0
      replace r1 : u 1 = (.slice (some ⟨bk, off, none⟩) n cap) := r1
      replace r2 : u 2 = (.int .i64 slot) := r2
      replace r3 : u 3 = (.pointer (some ⟨w.heap.size, 11, none⟩)) := r3
      replace r4 : u 4 = (.int .i64 start) := r4
      replace r5 : u 5 = (.int .i64 (D : Int)) := r5
      replace r6 : u 6 = (.pointer (some ⟨w.heap.size, 12, none⟩)) := r6
      replace r7 : u 7 = (.slice (some ⟨bk, off, none⟩) n cap) := r7
      replace r8 : u 8 = (.int .i64 (n : Int)) := r8
      replace r9 : u 9 = (.int .i64 (m : Int)) := r9
      replace r10 : u 10 = (.pointer (some ⟨bk, off + m, none⟩)) := r10
      replace r11 : u 11 = (.int .i64 x) := r11
      simp only [mkAct, List.foldl_cons, List.foldl_nil, List.setIfInBounds_toArray, List.set_cons_succ, List.set_cons_zero]
      try simp only [str, r0, r1, r2, r3, r4, r5, r6, r7, r8, r9, r10, r11]
      go_wp2
      go_ret
      exact ⟨rfl, hw1.out.trans hI⟩
set_option maxRecDepth 100000 in
set_option maxHeartbeats 1600000 in
theorem eprimary_any (c : Cfg) (number start : Int) (ao : Option Addr) (cap : Nat) (l : List Int) (leader view : Int) (w : World) (hsl : Sl w 1 ao l.length cap (iv l)) (hb1 : leader ≤ 9223372036854775807) (hb2 : -9223372036854775808 ≤ leader) :
    Calls Try.prog 67 #[.agg (epC c number start ao l.length cap).toArray, .int .i64 leader, .int .i64 view] w fun e w' => e = .returned (.int .i64 (eprimary c number start l leader view)) ∧ Same w w' := by
  have hinf := Lib.hid (ep_info c number start ao l.length cap)
  have hask := fun w h => asked_leads c number start ao cap l leader w h hb1 hb2
  unfold eprimary
  replace hsl := Lib.hid hsl
  obtain ⟨G, hG⟩ : ∃ G, G = (egood c number start l && eleads l leader) := ⟨_, rfl⟩
  rw [← hG] at hask ⊢
  obtain ⟨R, hR⟩ : ∃ R, R = (if G = true ∧ 0 ≤ view ∧ view ≤ 1099511627776 then (leader + view) % c.nodes else -1) := ⟨_, rfl⟩
  rw [← hR]
  by_cases hall : G = true ∧ 0 ≤ view ∧ view ≤ 1099511627776
  · rw [if_pos hall] at hR
    obtain ⟨h1, h2, h3⟩ := hall
    rw [h1] at hask hG
    have hG2 := hG.symm
    simp only [Bool.and_eq_true] at hG2
    have hok := egood_ok hG2.1
    have hin := hG2.2
    rw [eleads, decide_eq_true_iff] at hin
    obtain ⟨j, hj, hje⟩ := List.mem_iff_getElem.1 hin
    have hel := hok.el j hj
    have hge : l.getD j 0 = leader := by simp [List.getD, hj, hje]
    rw [hge] at hel
    have n1 := hok.n1
    have n2 := hok.n2
    obtain ⟨N, hN⟩ : ∃ N, N = c.nodes := ⟨_, rfl⟩
    rw [← hN] at hR hel n1 n2
    have hz : (N == 0) = false := by simp; omega
    have hl0 := hel.1
    have hl1 := hel.2
    clear hG2 hok hin hje hge h1 hG hel
    replace hask := Lib.hid hask
    replace hR := Lib.hid hR
    replace hN := Lib.hid hN
    go_enter Try.func67, Try.ntmps67
    go_upto_region 1 with (refine box_row rfl _ _ rfl _ rfl hinf.out ?_; intro w0 hbx hs0; have hbxl := blk_lt hbx; replace hs0 := Lib.hid hs0; replace hbx := Lib.hid hbx)
    go_wp2_with (refine load_row rfl _ _ rfl w.heap.size rfl _ _ _ _ hbx.out Try.underlying124 rfl hinf.out ?_)
    refine (hask.out _ (hsl.out.same hs0.out)).mono ?_
    rintro e w1 ⟨rfl, hs1⟩
    have hbx1 := (hs1.block _ hbxl).trans hbx.out
    have hw1 := hs0.out.trans hs1
    have e1 : w1.cell? ⟨w.heap.size, 0, none⟩ = some (.int .i64 N) := by rw [hN.out]; exact ep_cell hbx1 0 (by omega)
    clear hs1 hs0 hbx hbx1
    replace hw1 := Lib.hid hw1
    go_wp2
    go_ret
    exact ⟨by rw [hR.out]; rfl, hw1.out⟩
  · rw [if_neg hall] at hR
    clear hG
    replace hR := Lib.hid hR
    have key : ∀ h : G = false ∨ G = true ∧ view < 0 ∨ G = true ∧ 0 ≤ view ∧ 1099511627776 < view, Calls Try.prog 67 #[.agg (epC c number start ao l.length cap).toArray, .int .i64 leader, .int .i64 view] w fun e w' => e = .returned (.int .i64 R) ∧ Same w w' := by
      intro h
      clear hall
      rcases h with h | ⟨h, h'⟩ | ⟨h, h', h''⟩
      all_goals
        rw [h] at hask
        clear h
        replace hask := Lib.hid hask
        go_enter Try.func67, Try.ntmps67
        go_upto_region 1 with (refine box_row rfl _ _ rfl _ rfl hinf.out ?_; intro w0 hbx hs0; replace hs0 := Lib.hid hs0; replace hbx := Lib.hid hbx)
        go_wp2_with (refine load_row rfl _ _ rfl w.heap.size rfl _ _ _ _ hbx.out Try.underlying124 rfl hinf.out ?_)
        refine (hask.out _ (hsl.out.same hs0.out)).mono ?_
        rintro e w1 ⟨rfl, hs1⟩
        go_wp2
        go_ret
        exact ⟨by rw [hR.out]; rfl, hs0.out.trans hs1⟩
    refine key ?_
    cases hGb : G
    · exact .inl rfl
    · rw [hGb] at hall
      by_cases h2 : 0 ≤ view
      · exact .inr (.inr ⟨rfl, h2, by simp at hall; omega⟩)
      · exact .inr (.inl ⟨rfl, by omega⟩)
set_option maxRecDepth 100000 in
set_option maxHeartbeats 3200000 in
theorem eslots_any (c : Cfg) (number start : Int) (ao : Option Addr) (cap : Nat) (l : List Int) (leader : Int) (w : World) (hsl : Sl w 1 ao l.length cap (iv l)) (hb1 : leader ≤ 9223372036854775807) (hb2 : -9223372036854775808 ≤ leader) :
    Calls Try.prog 65 #[.agg (epC c number start ao l.length cap).toArray, .int .i64 leader] w (RetI w (eslots c number start l leader)) := by
  have hinf := Lib.hid (ep_info c number start ao l.length cap)
  have hask := fun w h => asked_leads c number start ao cap l leader w h hb1 hb2
  obtain ⟨R, hR⟩ : ∃ R, R = eslots c number start l leader := ⟨_, rfl⟩
  rw [← hR]
  unfold eslots at hR
  replace hsl := Lib.hid hsl
  cases hG : (egood c number start l && eleads l leader)
  · rw [hG] at hask hR
    rw [if_neg (by simp)] at hR
    subst hR
    replace hask := Lib.hid hask
    clear hG
    go_enter Try.func65, Try.ntmps65
    go_upto_region 1 with (refine box_row rfl _ _ rfl _ rfl hinf.out ?_; intro w0 hbx hs0; replace hs0 := Lib.hid hs0; replace hbx := Lib.hid hbx)
    go_wp2_with (refine load_row rfl _ _ rfl w.heap.size rfl _ _ _ _ hbx.out Try.underlying124 rfl hinf.out ?_)
    refine (hask.out _ (hsl.out.same hs0.out)).mono ?_
    rintro e w1 ⟨rfl, hs1⟩
    go_wp2
    go_ret
    exact ⟨_, rfl, World.ownsRow_nil _ _ _ _, hs0.out.trans hs1⟩
  · have hG2 := hG
    simp only [Bool.and_eq_true] at hG2
    have hok := egood_ok hG2.1
    rw [hG] at hask hR
    rw [if_pos (by simp)] at hR
    have hsz := fun w => esize_any c number start ao l.length cap w (by have := hok.s1; omega) hok.s2 hok.len
    rw [show (l.length : Int) * c.slots = esize c l from rfl] at hsz
    have b1 := hok.b1
    have b2 := hok.b2
    have z1 := hok.z1
    have z2 := hok.z2
    have hl1 := hok.l1
    obtain ⟨Z, hZ⟩ : ∃ Z : Nat, esize c l = (Z : Int) := ⟨(esize c l).toNat, by omega⟩
    rw [hZ] at hsz b2 z1 z2
    rw [hZ, Int.toNat_natCast] at hR
    have hsc := slotsTo_succ start l leader
    have hle := slotsTo_le start l leader
    obtain ⟨S, hS⟩ : ∃ S, S = slotsTo start l leader := ⟨_, rfl⟩
    rw [← hS] at hsc hle hR
    have hS0 : S 0 = [] := by rw [hS]; rfl
    obtain ⟨bk, off, rfl, hbkl, hcell⟩ := hsl.out.at (by intro h2; rw [iv, List.map_eq_nil_iff] at h2; rw [h2] at hl1; simp at hl1)
    have hcap := hsl.out.cap
    have hcell2 : ∀ m, m < l.length → w.cell? ⟨bk, off + m, none⟩ = some (.int .i64 (l.getD m 0)) := by
      intro m hm
      have cc := hcell m _ (iv_get hm)
      have hx : l[m]'hm = l.getD m 0 := by simp [List.getD, hm]
      rw [hx] at cc
      exact cc
    have hmod : ∀ k : Nat, (k : Int).tmod (l.length : Int) = ((k % l.length : Nat) : Int) := fun k => tmod_nat k l.length
    have hml : ∀ k, k % l.length < l.length := fun k => Nat.mod_lt _ hl1
    obtain ⟨n, hn⟩ : ∃ n, n = l.length := ⟨_, rfl⟩
    have hz : ((n : Int) == 0) = false := by simp; omega
    rw [← hn] at hmod hml hcap hcell2 hsc hinf hask hsl hsz ⊢
    clear hG hG2 hok hcell hS hZ hl1
    replace hn := Lib.hid hn
    replace hask := Lib.hid hask
    replace hR := Lib.hid hR
    replace hsz := Lib.hid hsz
    replace hsc := Lib.hid hsc
    replace hS0 := Lib.hid hS0
    replace hcell2 := Lib.hid hcell2
    replace hmod := Lib.hid hmod
    replace hml := Lib.hid hml
    go_enter Try.func65, Try.ntmps65
    go_upto_region 1 with (refine box_row rfl _ _ rfl _ rfl hinf.out ?_; intro w0 hbx hs0; have hbxl := blk_lt hbx; replace hs0 := Lib.hid hs0; replace hbx := Lib.hid hbx)
    go_wp2_with (refine load_row rfl _ _ rfl w.heap.size rfl _ _ _ _ hbx.out Try.underlying124 rfl hinf.out ?_)
    refine (hask.out _ (hsl.out.same hs0.out)).mono ?_
    rintro e w1 ⟨rfl, hs1⟩
    have hbx1 := (hs1.block _ hbxl).trans hbx.out
    have hw1 := hs0.out.trans hs1
    have hbx1l := blk_lt hbx1
    clear hs1 hs0 hbx
    replace hw1 := Lib.hid hw1
    replace hbx1 := Lib.hid hbx1
    go_wp2_with (refine load_row rfl _ _ rfl w.heap.size rfl _ _ _ _ hbx1.out Try.underlying124 rfl hinf.out ?_)
    refine (hsz.out _).mono ?_
    rintro e w2 ⟨rfl, hs2⟩
    have hbx2 := (hs2.block _ hbx1l).trans hbx1.out
    have hw2 := hw1.out.trans hs2
    clear hs2 hw1 hbx1
    replace hw2 := Lib.hid hw2
    replace hbx2 := Lib.hid hbx2
    go_wp2
    go_loopw [12, 4] (fun i v wr => ∃ k : Nat, k ≤ Z ∧ i = .int .i64 k ∧ Own wr w2.heap.size 3 1 v (S k).length (iv (S k)) ∧ Same w2 wr) (fun i _ _ => Z - (intOf i).toNat)
    case atStart => exact ⟨0, by omega, rfl, by rw [hS0.out]; exact World.ownsRow_nil _ _ _ _, Same.refl⟩
    case round =>
      obtain ⟨k, hk, rfl, ho, hs⟩ := hrel
      by_cases hlt : k < Z
      · have hbxr := (hs.block _ (blk_lt hbx2.out)).trans hbx2.out
        have e1 := ep_start hbxr
        have e2 := ep_leaders hbxr
        obtain ⟨m, hm⟩ : ∃ m, m = k % n := ⟨_, rfl⟩
        have hmd := hmod.out k
        have hmn := hml.out k
        have hsk := hsc.out k
        rw [← hm] at hmd hmn hsk
        have cc := (hw2.out.trans hs).cell (hcell2.out m hmn)
        obtain ⟨x, hxe⟩ : ∃ x, x = l.getD m 0 := ⟨_, rfl⟩
        rw [← hxe] at cc hsk
        have hlk := hle k
        have hsz1 := hs.size
        have q0 : 0 ≤ (m : Int) := by omega
        have q1 : (m : Int) < (n : Int) := by omega
        clear hbxr hm hxe
        replace hmd := Lib.hid hmd
        replace cc := Lib.hid cc
        replace e1 := Lib.hid e1
        replace e2 := Lib.hid e2
        obtain ⟨m4, hm4⟩ : ∃ m, m = (S k).length := ⟨_, rfl⟩
        obtain ⟨o4, ho4'⟩ : ∃ o, o = iv (S k) := ⟨_, rfl⟩
        rw [← hm4, ← ho4'] at ho
        rw [← hm4] at hlk
        replace hm4 := Lib.hid hm4
        replace ho4' := Lib.hid ho4'
        replace ho := Lib.hid ho
        replace hs := Lib.hid hs
        obtain ⟨bb, hbb⟩ : ∃ bb, bb = (x == leader) := ⟨_, rfl⟩
        replace hbb := Lib.hid hbb
        go_upto_region 6 with fail
        go_cut [25] (fun v wx => v = .bool bb ∧ Same wr wx)
        case first =>
          refine wp_region_tails (by kernel_rfl) [(15, 0), (16, 1), (17, 2), (18, 3), (19, 4), (20, 5), (21, 6), (22, 7), (23, 8), (24, 9)] Same (Same _) [isV (.pointer (some ⟨w.heap.size, 12, none⟩)), isV (.slice (some ⟨bk, off, none⟩) n cap), isV (.int .i64 (k : Int)), isV (.pointer (some ⟨w.heap.size, 12, none⟩)), isV (.slice (some ⟨bk, off, none⟩) n cap), isV (.int .i64 (n : Int)), isV (.int .i64 (m : Int)), isV (.pointer (some ⟨bk, off + m, none⟩)), isV (.int .i64 x), isV (.int .i64 leader)] Same.refl.drew (fun _ _ h k => h.trans k) (by simp [isV_stable, isB_stable, isAny_stable]) (by decide) (l := [_, _, _, _, _, _, _, _, _, _]) rfl (by decide) (by kernel_rfl) ?_ ?_
          · refine ⟨?_, ?_, ?_, ?_, ?_, ?_, ?_, ?_, ?_, ?_, trivial⟩
            all_goals (intro u wx hI hp; simp only [mkAct, List.foldl_cons, List.foldl_nil, List.setIfInBounds_toArray, List.set_cons_succ, List.set_cons_zero])
            · -- operation 0
              go_wp2
              refine stq_v rfl Same.refl ?_
              first | (simp only [mkAct, List.foldl_cons, List.foldl_nil, List.setIfInBounds_toArray, List.set_cons_succ, List.set_cons_zero, upd, reduceIte, Nat.reduceEqDiff, Nat.reduceAdd, str]; done) | (simp [mkAct, upd, str, *]; done)
            · -- operation 1
              obtain ⟨f0, -⟩ := hp
              replace f0 : u 0 = (.pointer (some ⟨w.heap.size, 12, none⟩)) := f0
              try simp only [f0, str]
              have cx := hI.cell (e2.out)
              go_wp2
              refine stq_v rfl Same.refl ?_
              first | (simp only [mkAct, List.foldl_cons, List.foldl_nil, List.setIfInBounds_toArray, List.set_cons_succ, List.set_cons_zero, upd, reduceIte, Nat.reduceEqDiff, Nat.reduceAdd, f0, str]; done) | (simp [mkAct, upd, f0, str, *]; done)
            · -- operation 2
              go_wp2
              refine stq_v rfl Same.refl ?_
              first | (simp only [mkAct, List.foldl_cons, List.foldl_nil, List.setIfInBounds_toArray, List.set_cons_succ, List.set_cons_zero, upd, reduceIte, Nat.reduceEqDiff, Nat.reduceAdd, str]; done) | (simp [mkAct, upd, str, *]; done)
            · -- operation 3
              go_wp2
              refine stq_v rfl Same.refl ?_
              first | (simp only [mkAct, List.foldl_cons, List.foldl_nil, List.setIfInBounds_toArray, List.set_cons_succ, List.set_cons_zero, upd, reduceIte, Nat.reduceEqDiff, Nat.reduceAdd, str]; done) | (simp [mkAct, upd, str, *]; done)
            · -- operation 4
              obtain ⟨f3, -⟩ := hp
              replace f3 : u 3 = (.pointer (some ⟨w.heap.size, 12, none⟩)) := f3
              try simp only [f3, str]
              have cx := hI.cell (e2.out)
              go_wp2
              refine stq_v rfl Same.refl ?_
              first | (simp only [mkAct, List.foldl_cons, List.foldl_nil, List.setIfInBounds_toArray, List.set_cons_succ, List.set_cons_zero, upd, reduceIte, Nat.reduceEqDiff, Nat.reduceAdd, f3, str]; done) | (simp [mkAct, upd, f3, str, *]; done)
            · -- operation 5
              obtain ⟨f4, -⟩ := hp
              replace f4 : u 4 = (.slice (some ⟨bk, off, none⟩) n cap) := f4
              try simp only [f4, str]
              go_wp2
              refine stq_v rfl Same.refl ?_
              first | (simp only [mkAct, List.foldl_cons, List.foldl_nil, List.setIfInBounds_toArray, List.set_cons_succ, List.set_cons_zero, upd, reduceIte, Nat.reduceEqDiff, Nat.reduceAdd, f4, str]; done) | (simp [mkAct, upd, f4, str, *]; done)
            · -- operation 6
              obtain ⟨f2, f5, -⟩ := hp
              replace f2 : u 2 = (.int .i64 (k : Int)) := f2
              replace f5 : u 5 = (.int .i64 (n : Int)) := f5
              try simp only [f2, f5, str]
              have hmd := hmd.out
              go_wp2
              refine stq_v rfl Same.refl ?_
              first | (simp only [mkAct, List.foldl_cons, List.foldl_nil, List.setIfInBounds_toArray, List.set_cons_succ, List.set_cons_zero, upd, reduceIte, Nat.reduceEqDiff, Nat.reduceAdd, f2, f5, str]; done) | (simp [mkAct, upd, f2, f5, str, *]; done)
            · -- operation 7
              obtain ⟨f1, f6, -⟩ := hp
              replace f1 : u 1 = (.slice (some ⟨bk, off, none⟩) n cap) := f1
              replace f6 : u 6 = (.int .i64 (m : Int)) := f6
              try simp only [f1, f6, str]
              go_wp2
              refine stq_v rfl Same.refl ?_
              first | (simp only [mkAct, List.foldl_cons, List.foldl_nil, List.setIfInBounds_toArray, List.set_cons_succ, List.set_cons_zero, upd, reduceIte, Nat.reduceEqDiff, Nat.reduceAdd, f1, f6, str]; done) | (simp [mkAct, upd, f1, f6, str, *]; done)
            · -- operation 8
              obtain ⟨f7, -⟩ := hp
              replace f7 : u 7 = (.pointer (some ⟨bk, off + m, none⟩)) := f7
              try simp only [f7, str]
              have cx := hI.cell (cc.out)
              go_wp2
              refine stq_v rfl Same.refl ?_
              first | (simp only [mkAct, List.foldl_cons, List.foldl_nil, List.setIfInBounds_toArray, List.set_cons_succ, List.set_cons_zero, upd, reduceIte, Nat.reduceEqDiff, Nat.reduceAdd, f7, str]; done) | (simp [mkAct, upd, f7, str, *]; done)
            · -- operation 9
              go_wp2
              refine stq_v rfl Same.refl ?_
              first | (simp only [mkAct, List.foldl_cons, List.foldl_nil, List.setIfInBounds_toArray, List.set_cons_succ, List.set_cons_zero, upd, reduceIte, Nat.reduceEqDiff, Nat.reduceAdd, str]; done) | (simp [mkAct, upd, str, *]; done)
          · intro u wx hI hR
            obtain ⟨r0, r1, r2, r3, r4, r5, r6, r7, r8, r9, -⟩ := hR
            replace r0 : u 0 = (.pointer (some ⟨w.heap.size, 12, none⟩)) := r0
            replace r1 : u 1 = (.slice (some ⟨bk, off, none⟩) n cap) := r1
            replace r2 : u 2 = (.int .i64 (k : Int)) := r2
            replace r3 : u 3 = (.pointer (some ⟨w.heap.size, 12, none⟩)) := r3
            replace r4 : u 4 = (.slice (some ⟨bk, off, none⟩) n cap) := r4
            replace r5 : u 5 = (.int .i64 (n : Int)) := r5
            replace r6 : u 6 = (.int .i64 (m : Int)) := r6
            replace r7 : u 7 = (.pointer (some ⟨bk, off + m, none⟩)) := r7
            replace r8 : u 8 = (.int .i64 x) := r8
            replace r9 : u 9 = (.int .i64 leader) := r9
            simp only [mkAct, List.foldl_cons, List.foldl_nil, List.setIfInBounds_toArray, List.set_cons_succ, List.set_cons_zero]
            try simp only [str, r0, r1, r2, r3, r4, r5, r6, r7, r8, r9]
            have hbb' := hbb.out.symm
            go_wp2_with fail
            go_meet
            exact ⟨rfl, hI⟩
        case rest =>
          obtain ⟨rfl, hsq⟩ := hcut
          have hsR := hs.out.trans hsq
          have hoR := ho.out.same hsq
          have e1' := hsq.cell e1.out
          have hszR := hsR.size
          clear hsq hs ho e1 e2 cc
          replace hsR := Lib.hid hsR
          replace hoR := Lib.hid hoR
          by_cases hxl : x = leader
          · have hb2 : bb = true := by rw [hbb.out]; simp [hxl]
            rw [if_pos hxl] at hsk
            have hsl2 : (S (k + 1)).length = (S k).length + 1 := by rw [hsk]; simp
            subst hb2
            clear hxl hbb
            replace hsk := Lib.hid hsk
            replace hsl2 := Lib.hid hsl2
            have hq1 : start + (k : Int) ≤ 1099511627776 := by omega
            go_wp2_with (at_builtin; refine append_own (l := [.int .i64 (start + (k : Int))]) rfl _ _ rfl isT hoR.out rfl rfl rfl (by simp [Value.oneCell']) hszR (by omega) (by omega) ?_; intro v4 w4 ho4 hk4 hz4; clear hz4; replace ho4 := Lib.hid ho4; replace hk4 := Lib.hid hk4)
            go_roundw
            case rel => exact ⟨k + 1, by omega, by go_num, by rw [hsl2.out, ← hm4.out, hsk.out, iv_append, ← ho4'.out]; exact ho4.out, hsR.out.keep hk4.out (fun x hx hv => by have := hoR.out.base x hv; omega)⟩
            case measure => simp [intOf]; omega
          · have hb2 : bb = false := by rw [hbb.out]; simpa using hxl
            rw [if_neg hxl] at hsk
            subst hb2
            clear hxl hbb
            replace hsk := Lib.hid hsk
            go_wp2
            go_roundw
            case rel => exact ⟨k + 1, by omega, by go_num, by rw [hsk.out, ← hm4.out, ← ho4'.out]; exact hoR.out, hsR.out⟩
            case measure => simp [intOf]; omega
      · obtain rfl : k = Z := by omega
        go_wp2
        go_ret
        exact ⟨_, rfl, by rw [hR.out]; exact ho.lower hw2.out.size, hw2.out.trans hs⟩
end Go.Proofs.Ytmacgmmjgdmleaa
