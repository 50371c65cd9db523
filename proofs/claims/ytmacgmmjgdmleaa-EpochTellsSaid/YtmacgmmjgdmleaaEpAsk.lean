/-
  What may be asked of an epoch: has, leads, asked, End, Owner, Slots, Primary.
-/
import Derived.Test.YtmacgmmjgdmleaaEpNew
import Derived.Test.YtmacgmmjgdmleaaCfgEq
namespace Go.Proofs.Ytmacgmmjgdmleaa
open Go Go.RowKit
set_option linter.unusedSimpArgs false
set_option linter.unusedVariables false

def esize (c : Cfg) (l : List Int) : Int := (l.length : Int) * c.slots
def ehas (c : Cfg) (start : Int) (l : List Int) (slot : Int) : Bool := decide (start ≤ slot) && decide (slot - start < esize c l)
def eleads (l : List Int) (n : Int) : Bool := decide (n ∈ l)
structure EpOk (c : Cfg) (start : Int) (l : List Int) : Prop where
  n1 : 4 ≤ c.nodes
  n2 : c.nodes ≤ 64
  s1 : 1 ≤ c.slots
  s2 : c.slots ≤ 4
  l1 : 0 < l.length
  l2 : (l.length : Int) ≤ c.nodes
  b1 : 1 ≤ start
  b2 : start ≤ 1099511627776 - esize c l
  z1 : 1 ≤ esize c l
  z2 : esize c l ≤ 256
  el : ∀ j, j < l.length → 0 ≤ l.getD j 0 ∧ l.getD j 0 < c.nodes
  rise : ∀ j, j < l.length → lastOf l j < l.getD j 0
theorem egood_ok {c : Cfg} {number start : Int} {l : List Int} (h : egood c number start l = true) : EpOk c start l := by
  simp only [egood, Bool.and_eq_true, decide_eq_true_eq] at h
  obtain ⟨h1, h2, h3, h4, h5, h6, h7⟩ := h
  rw [Cfg.good_eq] at h1
  simp only [Bool.and_eq_true] at h1
  obtain ⟨k1, k2, _⟩ := (qgood_iff _).1 h1.1
  obtain ⟨k3, k4⟩ := (inside_iff _ _ _).1 h1.2.1.1.1.1.2
  have hl : 0 < l.length := List.length_pos_iff.2 h4
  have hl2 := riseTo_len l c.nodes h5 (by omega)
  have hz1 : (1 : Int) * 1 ≤ (l.length : Int) * c.slots := Int.mul_le_mul (by omega) k3 (by omega) (by omega)
  have hz2 : (l.length : Int) * c.slots ≤ 64 * 4 := Int.mul_le_mul (by omega) k4 (by omega) (by omega)
  refine ⟨k1, k2, k3, k4, hl, hl2, h6, h7, by unfold esize; omega, by unfold esize; omega, ?_, ?_⟩
  · intro j hj
    have := riseTo_ge l c.nodes _ h5 j hj
    omega
  · intro j hj
    have := List.all_eq_true.1 h5 j (List.mem_range.2 hj)
    simp [stepOk] at this
    exact this.1
section
variable {c : Cfg} {number start : Int} {ao : Option Addr} {cap : Nat} {l : List Int} {w : World}
theorem EpOk.len (h : EpOk c start l) : l.length ≤ 1000 := by have := h.l2; have := h.n2; omega
end
set_option maxRecDepth 100000 in
set_option maxHeartbeats 800000 in
theorem ehas_any (c : Cfg) (number start : Int) (ao : Option Addr) (cap : Nat) (l : List Int) (slot : Int) (w : World) (hok : EpOk c start l) (hsl : Sl w 1 ao l.length cap (iv l)) (hb1 : slot ≤ 9223372036854775807) (hb2 : -9223372036854775808 ≤ slot) :
    Calls Try.prog 129 #[.agg (epC c number start ao l.length cap).toArray, .int .i64 slot] w fun e w' => e = .returned (.bool (ehas c start l slot)) ∧ Same w w' := by
  have hinf := Lib.hid (ep_info c number start ao l.length cap)
  have hsz := fun w => esize_any c number start ao l.length cap w (by have := hok.s1; omega) hok.s2 hok.len
  have b1 := hok.b1
  have b2 := hok.b2
  have z1 := hok.z1
  have z2 := hok.z2
  unfold ehas
  rw [show (l.length : Int) * c.slots = esize c l from rfl] at hsz
  obtain ⟨Z, hZ⟩ : ∃ Z, Z = esize c l := ⟨_, rfl⟩
  rw [← hZ] at hsz b2 z1 z2 ⊢
  clear hZ hok
  replace hsz := Lib.hid hsz
  replace hsl := Lib.hid hsl
  by_cases h : start ≤ slot
  · have hR : (decide (start ≤ slot) && decide (slot - start < Z)) = decide (slot - start < Z) := by rw [decide_eq_true h]; rfl
    rw [hR]
    clear hR
    have hwr : IntKind.i64.wrap (slot - start) = slot - start := IntWalk.i64_in _ ⟨by omega, by omega⟩
    go_enter Try.func129, Try.ntmps129
    go_upto_region 1 with (refine box_row rfl _ _ rfl _ rfl hinf.out ?_; intro w0 hbx hs0; replace hs0 := Lib.hid hs0)
    have e1 := ep_start hbx
    have hbxl := blk_lt hbx
    replace hbx := Lib.hid hbx
    replace e1 := Lib.hid e1
    refine wp_region_tails (by kernel_rfl) [(5, 0), (6, 1), (7, 2), (8, 3), (9, 4), (10, 5), (11, 6), (12, 7), (13, 8), (14, 9), (15, 10), (16, 11), (17, 12)] Same (Same _) [isV (.int .i64 slot), isV (.pointer (some ⟨w.heap.size, 11, none⟩)), isV (.int .i64 start), isV (.bool true), isV (.bool true), isV (.int .i64 slot), isV (.pointer (some ⟨w.heap.size, 11, none⟩)), isV (.int .i64 start), isV (.int .i64 (slot - start)), isV (.agg (epC c number start ao l.length cap).toArray), isV (.int .i64 Z), isV (.bool (decide (slot - start < Z))), isV (.bool (decide (slot - start < Z)))] Same.refl.drew (fun _ _ h k => h.trans k) (by simp [isV_stable, isB_stable, isAny_stable]) (by decide) (l := [_, _, _, _, _, _, _, _, _, _, _, _, _]) rfl (by decide) (by kernel_rfl) ?_ ?_
    · refine ⟨?_, ?_, ?_, ?_, ?_, ?_, ?_, ?_, ?_, ?_, ?_, ?_, ?_, trivial⟩
      all_goals (intro u wx hI hp; simp only [mkAct, List.foldl_cons, List.foldl_nil, List.setIfInBounds_toArray, List.set_cons_succ, List.set_cons_zero])
      · -- operation 0
        go_wp2
        refine stq_v rfl Same.refl ?_
        first | (simp only [mkAct, List.foldl_cons, List.foldl_nil, List.setIfInBounds_toArray, List.set_cons_succ, List.set_cons_zero, upd, reduceIte, Nat.reduceEqDiff, Nat.reduceAdd, str]; done) | (simp [mkAct, upd, str, *]; done)
      · -- operation 1
        go_wp2
        refine stq_v rfl Same.refl ?_
        first | (simp only [mkAct, List.foldl_cons, List.foldl_nil, List.setIfInBounds_toArray, List.set_cons_succ, List.set_cons_zero, upd, reduceIte, Nat.reduceEqDiff, Nat.reduceAdd, str]; done) | (simp [mkAct, upd, str, *]; done)
      · -- operation 2
        obtain ⟨f1, -⟩ := hp
        replace f1 : u 1 = (.pointer (some ⟨w.heap.size, 11, none⟩)) := f1
        try simp only [f1, str]
        have cx := hI.cell (e1.out)
        go_wp2
        refine stq_v rfl Same.refl ?_
        first | (simp only [mkAct, List.foldl_cons, List.foldl_nil, List.setIfInBounds_toArray, List.set_cons_succ, List.set_cons_zero, upd, reduceIte, Nat.reduceEqDiff, Nat.reduceAdd, f1, str]; done) | (simp [mkAct, upd, f1, str, *]; done)
      · -- operation 3
        obtain ⟨f0, f2, -⟩ := hp
        replace f0 : u 0 = (.int .i64 slot) := f0
        replace f2 : u 2 = (.int .i64 start) := f2
        try simp only [f0, f2, str]
        go_wp2
        refine stq_v rfl Same.refl ?_
        first | (simp only [mkAct, List.foldl_cons, List.foldl_nil, List.setIfInBounds_toArray, List.set_cons_succ, List.set_cons_zero, upd, reduceIte, Nat.reduceEqDiff, Nat.reduceAdd, f0, f2, str]; done) | (simp [mkAct, upd, f0, f2, str, *]; done)
      · -- operation 4
        obtain ⟨f3, -⟩ := hp
        replace f3 : u 3 = (.bool true) := f3
        try simp only [f3, str]
        go_wp2
        refine stq_v rfl Same.refl ?_
        first | (simp only [mkAct, List.foldl_cons, List.foldl_nil, List.setIfInBounds_toArray, List.set_cons_succ, List.set_cons_zero, upd, reduceIte, Nat.reduceEqDiff, Nat.reduceAdd, f3, str]; done) | (simp [mkAct, upd, f3, str, *]; done)
      · -- operation 5
        obtain ⟨f4, -⟩ := hp
        replace f4 : u 4 = (.bool true) := f4
        try simp only [f4, str]
        go_wp2
        refine stq_v rfl Same.refl ?_
        first | (simp only [mkAct, List.foldl_cons, List.foldl_nil, List.setIfInBounds_toArray, List.set_cons_succ, List.set_cons_zero, upd, reduceIte, Nat.reduceEqDiff, Nat.reduceAdd, f4, str]; done) | (simp [mkAct, upd, f4, str, *]; done)
      · -- operation 6
        obtain ⟨f4, -⟩ := hp
        replace f4 : u 4 = (.bool true) := f4
        try simp only [f4, str]
        go_wp2
        refine stq_v rfl Same.refl ?_
        first | (simp only [mkAct, List.foldl_cons, List.foldl_nil, List.setIfInBounds_toArray, List.set_cons_succ, List.set_cons_zero, upd, reduceIte, Nat.reduceEqDiff, Nat.reduceAdd, f4, str]; done) | (simp [mkAct, upd, f4, str, *]; done)
      · -- operation 7
        obtain ⟨f6, f4, -⟩ := hp
        replace f6 : u 6 = (.pointer (some ⟨w.heap.size, 11, none⟩)) := f6
        replace f4 : u 4 = (.bool true) := f4
        try simp only [f6, f4, str]
        have cx := hI.cell (e1.out)
        go_wp2
        refine stq_v rfl Same.refl ?_
        first | (simp only [mkAct, List.foldl_cons, List.foldl_nil, List.setIfInBounds_toArray, List.set_cons_succ, List.set_cons_zero, upd, reduceIte, Nat.reduceEqDiff, Nat.reduceAdd, f6, f4, str]; done) | (simp [mkAct, upd, f6, f4, str, *]; done)
      · -- operation 8
        obtain ⟨f5, f7, f4, -⟩ := hp
        replace f5 : u 5 = (.int .i64 slot) := f5
        replace f7 : u 7 = (.int .i64 start) := f7
        replace f4 : u 4 = (.bool true) := f4
        try simp only [f5, f7, f4, str]
        go_wp2
        refine stq_v rfl Same.refl ?_
        first | (simp only [mkAct, List.foldl_cons, List.foldl_nil, List.setIfInBounds_toArray, List.set_cons_succ, List.set_cons_zero, upd, reduceIte, Nat.reduceEqDiff, Nat.reduceAdd, f5, f7, f4, str]; done) | (simp [mkAct, upd, f5, f7, f4, str, *]; done)
      · -- operation 9
        obtain ⟨f4, -⟩ := hp
        replace f4 : u 4 = (.bool true) := f4
        try simp only [f4, str]
        go_wp2_with (refine load_row rfl _ _ rfl w.heap.size rfl _ _ _ _ ((hI.block _ hbxl).trans hbx.out) Try.underlying124 rfl hinf.out ?_)
        refine stq_v rfl Same.refl ?_
        first | (simp only [mkAct, List.foldl_cons, List.foldl_nil, List.setIfInBounds_toArray, List.set_cons_succ, List.set_cons_zero, upd, reduceIte, Nat.reduceEqDiff, Nat.reduceAdd, f4, str]; done) | (simp [mkAct, upd, f4, str, *]; done)
      · -- operation 10
        obtain ⟨f9, -, f4, -⟩ := hp
        replace f9 : u 9 = (.agg (epC c number start ao l.length cap).toArray) := f9
        replace f4 : u 4 = (.bool true) := f4
        try simp only [f9, f4, str]
        go_wp2_with fail
        refine (hsz.out _).mono ?_
        rintro e w1 ⟨rfl, hs'⟩
        go_wp2
        refine stq_v rfl hs' ?_
        first | (simp only [mkAct, List.foldl_cons, List.foldl_nil, List.setIfInBounds_toArray, List.set_cons_succ, List.set_cons_zero, upd, reduceIte, Nat.reduceEqDiff, Nat.reduceAdd, f9, f4, str]; done) | (simp [mkAct, upd, f9, f4, str, *]; done)
      · -- operation 11
        obtain ⟨f8, f10, f4, -⟩ := hp
        replace f8 : u 8 = (.int .i64 (slot - start)) := f8
        replace f10 : u 10 = (.int .i64 Z) := f10
        replace f4 : u 4 = (.bool true) := f4
        try simp only [f8, f10, f4, str]
        go_wp2
        refine stq_v rfl Same.refl ?_
        first | (simp only [mkAct, List.foldl_cons, List.foldl_nil, List.setIfInBounds_toArray, List.set_cons_succ, List.set_cons_zero, upd, reduceIte, Nat.reduceEqDiff, Nat.reduceAdd, f8, f10, f4, str]; done) | (simp [mkAct, upd, f8, f10, f4, str, *]; done)
      · -- operation 12
        obtain ⟨f4, f11, -⟩ := hp
        replace f4 : u 4 = (.bool true) := f4
        replace f11 : u 11 = (.bool (decide (slot - start < Z))) := f11
        try simp only [f4, f11, str]
        go_wp2
        refine stq_v rfl Same.refl ?_
        first | (simp only [mkAct, List.foldl_cons, List.foldl_nil, List.setIfInBounds_toArray, List.set_cons_succ, List.set_cons_zero, upd, reduceIte, Nat.reduceEqDiff, Nat.reduceAdd, f4, f11, str]; done) | (simp [mkAct, upd, f4, f11, str, *]; done)
    · intro u wx hI hR
      obtain ⟨r0, r1, r2, r3, r4, r5, r6, r7, r8, r9, r10, r11, r12, -⟩ := hR
      replace r0 : u 0 = (.int .i64 slot) := r0
      replace r1 : u 1 = (.pointer (some ⟨w.heap.size, 11, none⟩)) := r1
      replace r2 : u 2 = (.int .i64 start) := r2
      replace r3 : u 3 = (.bool true) := r3
      replace r4 : u 4 = (.bool true) := r4
      replace r5 : u 5 = (.int .i64 slot) := r5
      replace r6 : u 6 = (.pointer (some ⟨w.heap.size, 11, none⟩)) := r6
      replace r7 : u 7 = (.int .i64 start) := r7
      replace r8 : u 8 = (.int .i64 (slot - start)) := r8
      replace r9 : u 9 = (.agg (epC c number start ao l.length cap).toArray) := r9
      replace r10 : u 10 = (.int .i64 Z) := r10
      replace r11 : u 11 = (.bool (decide (slot - start < Z))) := r11
      replace r12 : u 12 = (.bool (decide (slot - start < Z))) := r12
      simp only [mkAct, List.foldl_cons, List.foldl_nil, List.setIfInBounds_toArray, List.set_cons_succ, List.set_cons_zero]
      try simp only [str, r0, r1, r2, r3, r4, r5, r6, r7, r8, r9, r10, r11, r12]
      go_wp2
      go_ret
      exact ⟨rfl, hs0.out.trans hI⟩
  · have hR : (decide (start ≤ slot) && decide (slot - start < Z)) = false := by rw [decide_eq_false h]; rfl
    rw [hR]
    clear hR
    go_enter Try.func129, Try.ntmps129
    go_upto_region 1 with (refine box_row rfl _ _ rfl _ rfl hinf.out ?_; intro w0 hbx hs0; replace hs0 := Lib.hid hs0)
    have e1 := ep_start hbx
    clear hbx
    replace e1 := Lib.hid e1
    refine wp_region_tails (by kernel_rfl) [(5, 0), (6, 1), (7, 2), (8, 3), (9, 4), (10, 5), (11, 6), (12, 7), (13, 8), (14, 9), (15, 10), (16, 11), (17, 12)] Same (Same _) [isV (.int .i64 slot), isV (.pointer (some ⟨w.heap.size, 11, none⟩)), isV (.int .i64 start), isV (.bool false), isV (.bool false), isV undef, isV undef, isV undef, isV undef, isV undef, isV undef, isV undef, isV (.bool false)] Same.refl.drew (fun _ _ h k => h.trans k) (by simp [isV_stable, isB_stable, isAny_stable]) (by decide) (l := [_, _, _, _, _, _, _, _, _, _, _, _, _]) rfl (by decide) (by kernel_rfl) ?_ ?_
    · refine ⟨?_, ?_, ?_, ?_, ?_, ?_, ?_, ?_, ?_, ?_, ?_, ?_, ?_, trivial⟩
      all_goals (intro u wx hI hp; simp only [mkAct, List.foldl_cons, List.foldl_nil, List.setIfInBounds_toArray, List.set_cons_succ, List.set_cons_zero])
      · -- operation 0
        go_wp2
        refine stq_v rfl Same.refl ?_
        first | (simp only [mkAct, List.foldl_cons, List.foldl_nil, List.setIfInBounds_toArray, List.set_cons_succ, List.set_cons_zero, upd, reduceIte, Nat.reduceEqDiff, Nat.reduceAdd, str]; done) | (simp [mkAct, upd, str, *]; done)
      · -- operation 1
        go_wp2
        refine stq_v rfl Same.refl ?_
        first | (simp only [mkAct, List.foldl_cons, List.foldl_nil, List.setIfInBounds_toArray, List.set_cons_succ, List.set_cons_zero, upd, reduceIte, Nat.reduceEqDiff, Nat.reduceAdd, str]; done) | (simp [mkAct, upd, str, *]; done)
      · -- operation 2
        obtain ⟨f1, -⟩ := hp
        replace f1 : u 1 = (.pointer (some ⟨w.heap.size, 11, none⟩)) := f1
        try simp only [f1, str]
        have cx := hI.cell (e1.out)
        go_wp2
        refine stq_v rfl Same.refl ?_
        first | (simp only [mkAct, List.foldl_cons, List.foldl_nil, List.setIfInBounds_toArray, List.set_cons_succ, List.set_cons_zero, upd, reduceIte, Nat.reduceEqDiff, Nat.reduceAdd, f1, str]; done) | (simp [mkAct, upd, f1, str, *]; done)
      · -- operation 3
        obtain ⟨f0, f2, -⟩ := hp
        replace f0 : u 0 = (.int .i64 slot) := f0
        replace f2 : u 2 = (.int .i64 start) := f2
        try simp only [f0, f2, str]
        go_wp2
        refine stq_v rfl Same.refl ?_
        first | (simp only [mkAct, List.foldl_cons, List.foldl_nil, List.setIfInBounds_toArray, List.set_cons_succ, List.set_cons_zero, upd, reduceIte, Nat.reduceEqDiff, Nat.reduceAdd, f0, f2, str]; done) | (simp [mkAct, upd, f0, f2, str, *]; done)
      · -- operation 4
        obtain ⟨f3, -⟩ := hp
        replace f3 : u 3 = (.bool false) := f3
        try simp only [f3, str]
        go_wp2
        refine stq_v rfl Same.refl ?_
        first | (simp only [mkAct, List.foldl_cons, List.foldl_nil, List.setIfInBounds_toArray, List.set_cons_succ, List.set_cons_zero, upd, reduceIte, Nat.reduceEqDiff, Nat.reduceAdd, f3, str]; done) | (simp [mkAct, upd, f3, str, *]; done)
      · -- operation 5
        obtain ⟨f4, -⟩ := hp
        replace f4 : u 4 = (.bool false) := f4
        try simp only [f4, str]
        go_wp2
        refine stq_v rfl Same.refl ?_
        first | (simp only [mkAct, List.foldl_cons, List.foldl_nil, List.setIfInBounds_toArray, List.set_cons_succ, List.set_cons_zero, upd, reduceIte, Nat.reduceEqDiff, Nat.reduceAdd, f4, str]; done) | (simp [mkAct, upd, f4, str, *]; done)
      · -- operation 6
        obtain ⟨f4, -⟩ := hp
        replace f4 : u 4 = (.bool false) := f4
        try simp only [f4, str]
        go_wp2
        refine stq_v rfl Same.refl ?_
        first | (simp only [mkAct, List.foldl_cons, List.foldl_nil, List.setIfInBounds_toArray, List.set_cons_succ, List.set_cons_zero, upd, reduceIte, Nat.reduceEqDiff, Nat.reduceAdd, f4, str]; done) | (simp [mkAct, upd, f4, str, *]; done)
      · -- operation 7
        obtain ⟨f6, f4, -⟩ := hp
        replace f6 : u 6 = undef := f6
        replace f4 : u 4 = (.bool false) := f4
        try simp only [f6, f4, str]
        go_wp2
        refine stq_v rfl Same.refl ?_
        first | (simp only [mkAct, List.foldl_cons, List.foldl_nil, List.setIfInBounds_toArray, List.set_cons_succ, List.set_cons_zero, upd, reduceIte, Nat.reduceEqDiff, Nat.reduceAdd, f6, f4, str]; done) | (simp [mkAct, upd, f6, f4, str, *]; done)
      · -- operation 8
        obtain ⟨f5, f7, f4, -⟩ := hp
        replace f5 : u 5 = undef := f5
        replace f7 : u 7 = undef := f7
        replace f4 : u 4 = (.bool false) := f4
        try simp only [f5, f7, f4, str]
        go_wp2
        refine stq_v rfl Same.refl ?_
        first | (simp only [mkAct, List.foldl_cons, List.foldl_nil, List.setIfInBounds_toArray, List.set_cons_succ, List.set_cons_zero, upd, reduceIte, Nat.reduceEqDiff, Nat.reduceAdd, f5, f7, f4, str]; done) | (simp [mkAct, upd, f5, f7, f4, str, *]; done)
      · -- operation 9
        obtain ⟨f4, -⟩ := hp
        replace f4 : u 4 = (.bool false) := f4
        try simp only [f4, str]
        go_wp2
        refine stq_v rfl Same.refl ?_
        first | (simp only [mkAct, List.foldl_cons, List.foldl_nil, List.setIfInBounds_toArray, List.set_cons_succ, List.set_cons_zero, upd, reduceIte, Nat.reduceEqDiff, Nat.reduceAdd, f4, str]; done) | (simp [mkAct, upd, f4, str, *]; done)
      · -- operation 10
        obtain ⟨f9, -, f4, -⟩ := hp
        replace f9 : u 9 = undef := f9
        replace f4 : u 4 = (.bool false) := f4
        try simp only [f9, f4, str]
        go_wp2
        refine stq_v rfl Same.refl ?_
        first | (simp only [mkAct, List.foldl_cons, List.foldl_nil, List.setIfInBounds_toArray, List.set_cons_succ, List.set_cons_zero, upd, reduceIte, Nat.reduceEqDiff, Nat.reduceAdd, f9, f4, str]; done) | (simp [mkAct, upd, f9, f4, str, *]; done)
      · -- operation 11
        obtain ⟨f8, f10, f4, -⟩ := hp
        replace f8 : u 8 = undef := f8
        replace f10 : u 10 = undef := f10
        replace f4 : u 4 = (.bool false) := f4
        try simp only [f8, f10, f4, str]
        go_wp2
        refine stq_v rfl Same.refl ?_
        first | (simp only [mkAct, List.foldl_cons, List.foldl_nil, List.setIfInBounds_toArray, List.set_cons_succ, List.set_cons_zero, upd, reduceIte, Nat.reduceEqDiff, Nat.reduceAdd, f8, f10, f4, str]; done) | (simp [mkAct, upd, f8, f10, f4, str, *]; done)
      · -- operation 12
        obtain ⟨f4, f11, -⟩ := hp
        replace f4 : u 4 = (.bool false) := f4
        replace f11 : u 11 = undef := f11
        try simp only [f4, f11, str]
        go_wp2
        refine stq_v rfl Same.refl ?_
        first | (simp only [mkAct, List.foldl_cons, List.foldl_nil, List.setIfInBounds_toArray, List.set_cons_succ, List.set_cons_zero, upd, reduceIte, Nat.reduceEqDiff, Nat.reduceAdd, f4, f11, str]; done) | (simp [mkAct, upd, f4, f11, str, *]; done)
    · intro u wx hI hR
      obtain ⟨r0, r1, r2, r3, r4, r5, r6, r7, r8, r9, r10, r11, r12, -⟩ := hR
      replace r0 : u 0 = (.int .i64 slot) := r0
      replace r1 : u 1 = (.pointer (some ⟨w.heap.size, 11, none⟩)) := r1
      replace r2 : u 2 = (.int .i64 start) := r2
      replace r3 : u 3 = (.bool false) := r3
      replace r4 : u 4 = (.bool false) := r4
      replace r5 : u 5 = undef := r5
      replace r6 : u 6 = undef := r6
      replace r7 : u 7 = undef := r7
      replace r8 : u 8 = undef := r8
      replace r9 : u 9 = undef := r9
      replace r10 : u 10 = undef := r10
      replace r11 : u 11 = undef := r11
      replace r12 : u 12 = (.bool false) := r12
      simp only [mkAct, List.foldl_cons, List.foldl_nil, List.setIfInBounds_toArray, List.set_cons_succ, List.set_cons_zero]
      try simp only [str, r0, r1, r2, r3, r4, r5, r6, r7, r8, r9, r10, r11, r12]
      go_wp2
      go_ret
      exact ⟨rfl, hs0.out.trans hI⟩
set_option maxRecDepth 100000 in
set_option maxHeartbeats 800000 in
theorem eleads_any (c : Cfg) (number start : Int) (ao : Option Addr) (len cap : Nat) (l : List Int) (n : Int) (w : World) (hsl : Sl w 1 ao len cap (iv l)) :
    Calls Try.prog 130 #[.agg (epC c number start ao len cap).toArray, .int .i64 n] w fun e w' => e = .returned (.bool (eleads l n)) ∧ Same w w' := by
  have hinf := Lib.hid (ep_info c number start ao len cap)
  have hll : l.length = len := by have := hsl.len; rw [iv_length] at this; omega
  have hcap := hsl.cap
  have hmost := hsl.most
  unfold maxLen at hmost
  obtain ⟨R, hR⟩ : ∃ R, R = eleads l n := ⟨_, rfl⟩
  rw [← hR]
  have hyes : ∀ k, k < len → l.getD k 0 = n → R = true := by
    intro k hk he
    rw [hR, eleads, decide_eq_true_iff, ← he]
    simp only [List.getD, List.getElem?_eq_getElem (show k < l.length by omega), Option.getD_some]
    exact List.getElem_mem _
  have hno : n ∉ l.take len → R = false := by
    intro h
    rw [List.take_of_length_le (by omega)] at h
    rw [hR, eleads, decide_eq_false h]
  have hnx : ∀ k, k < len → n ∉ l.take k → l.getD k 0 ≠ n → n ∉ l.take (k + 1) := by
    intro k hk h1 h2
    rw [List.take_succ_eq_append_getElem (by omega)]
    simp only [List.getD, List.getElem?_eq_getElem (show k < l.length by omega), Option.getD_some] at h2
    simp only [List.mem_append, List.mem_singleton, not_or]
    exact ⟨h1, fun h => h2 h.symm⟩
  replace hR := Lib.hid hR
  replace hyes := Lib.hid hyes
  replace hno := Lib.hid hno
  replace hnx := Lib.hid hnx
  replace hsl := Lib.hid hsl
  go_enter Try.func130, Try.ntmps130
  go_upto_region 1 with (refine box_row rfl _ _ rfl _ rfl hinf.out ?_; intro w0 hbx hs0; replace hs0 := Lib.hid hs0)
  have e3 := ep_leaders hbx
  clear hbx
  go_wp2
  clear e3
  go_loopw [10] (fun i wr => ∃ k : Nat, k ≤ len ∧ i = .int .i64 k ∧ n ∉ l.take k ∧ Same w0 wr) (fun i _ => len - (intOf i).toNat)
  case atStart => exact ⟨0, by omega, rfl, by simp, Same.refl⟩
  case round =>
    obtain ⟨k, hk, rfl, hnt, hs⟩ := hrel
    by_cases hlt : k < len
    · obtain ⟨bk, off, rfl, _, hcell⟩ := hsl.out.at (by intro h2; rw [iv, List.map_eq_nil_iff] at h2; rw [h2] at hll; simp at hll; omega)
      have cc := (hs0.out.trans hs).cell (hcell k _ (iv_get (by omega)))
      have hx : l[k]'(by omega) = l.getD k 0 := by simp [List.getD, show k < l.length by omega]
      rw [hx] at cc
      have hy := hyes.out k hlt
      have hn := hnx.out k hlt hnt
      obtain ⟨x, hxe⟩ : ∃ x, x = l.getD k 0 := ⟨_, rfl⟩
      rw [← hxe] at cc hy hn
      have q0 : 0 ≤ (k : Int) := by omega
      have q1 : (k : Int) < (len : Int) := by omega
      clear hcell hx hxe hnt
      replace hs := Lib.hid hs
      by_cases hxn : x = n
      · have hR2 := hy hxn
        have hb : (x == n) = true := by simp [hxn]
        clear hy hn hxn
        replace hR2 := Lib.hid hR2
        go_wp2
        go_ret
        exact ⟨by rw [hR2.out]; rfl, hs0.out.trans hs.out⟩
      · have hn2 := hn hxn
        have hb : (x == n) = false := by simpa using hxn
        clear hy hn hxn
        replace hn2 := Lib.hid hn2
        go_wp2
        go_roundw
        case rel => exact ⟨k + 1, by omega, by go_num, hn2.out, hs.out⟩
        case measure => simp [intOf]; omega
    · obtain rfl : k = len := by omega
      have hR2 := hno.out hnt
      clear hnt
      replace hR2 := Lib.hid hR2
      go_wp2
      go_ret
      exact ⟨by rw [hR2.out]; rfl, hs0.out.trans hs⟩
set_option maxRecDepth 100000 in
set_option maxHeartbeats 800000 in
theorem asked_has (c : Cfg) (number start : Int) (ao : Option Addr) (cap : Nat) (l : List Int) (n : Int) (w : World) (hsl : Sl w 1 ao l.length cap (iv l)) (hb1 : n ≤ 9223372036854775807) (hb2 : -9223372036854775808 ≤ n) :
    Calls Try.prog 128 #[.agg (epC c number start ao l.length cap).toArray, .func (Fn.func 129) #[] #[], .int .i64 n] w fun e w' => e = .returned (.bool (egood c number start l && ehas c start l n)) ∧ Same w w' := by
  have hinf := Lib.hid (ep_info c number start ao l.length cap)
  have hgd := fun w h => egood_any c number start ao l.length cap l w h
  have hask := fun (w : World) (hok : EpOk c start l) (h : Sl w 1 ao l.length cap (iv l)) => ehas_any c number start ao cap l n w hok h hb1 hb2
  obtain ⟨H, hH⟩ : ∃ H, H = ehas c start l n := ⟨_, rfl⟩
  rw [← hH] at hask ⊢
  clear hH hb1 hb2
  replace hsl := Lib.hid hsl
  cases hG : egood c number start l
  · rw [hG] at hgd
    replace hgd := Lib.hid hgd
    clear hG hask
    go_enter Try.func128, Try.ntmps128
    go_upto_region 1 with (refine box_row rfl _ _ rfl _ rfl hinf.out ?_; intro w0 hbx hs0; replace hs0 := Lib.hid hs0; replace hbx := Lib.hid hbx)
    go_wp2_with (refine load_row rfl _ _ rfl w.heap.size rfl _ _ _ _ hbx.out Try.underlying124 rfl hinf.out ?_)
    refine (hgd.out _ (hsl.out.same hs0.out)).mono ?_
    rintro e w1 ⟨rfl, hs1⟩
    go_wp2
    go_ret
    exact ⟨rfl, hs0.out.trans hs1⟩
  · have hok := egood_ok hG
    rw [hG] at hgd
    replace hask := fun w h => hask w hok h
    replace hask := Lib.hid hask
    replace hgd := Lib.hid hgd
    clear hG hok
    go_enter Try.func128, Try.ntmps128
    go_upto_region 1 with (refine box_row rfl _ _ rfl _ rfl hinf.out ?_; intro w0 hbx hs0; have hbxl := blk_lt hbx; replace hs0 := Lib.hid hs0; replace hbx := Lib.hid hbx)
    go_wp2_with (refine load_row rfl _ _ rfl w.heap.size rfl _ _ _ _ hbx.out Try.underlying124 rfl hinf.out ?_)
    refine (hgd.out _ (hsl.out.same hs0.out)).mono ?_
    rintro e w1 ⟨rfl, hs1⟩
    have hbx1 := (hs1.block _ hbxl).trans hbx.out
    have hw1 := hs0.out.trans hs1
    clear hs1 hs0 hbx
    replace hw1 := Lib.hid hw1
    replace hbx1 := Lib.hid hbx1
    go_wp2_with (refine load_row rfl _ _ rfl w.heap.size rfl _ _ _ _ hbx1.out Try.underlying124 rfl hinf.out ?_)
    refine (hask.out _ (hsl.out.same hw1.out)).mono ?_
    rintro e w2 ⟨rfl, hs2⟩
    go_wp2
    go_ret
    exact ⟨rfl, hw1.out.trans hs2⟩
set_option maxRecDepth 100000 in
set_option maxHeartbeats 800000 in
theorem asked_leads (c : Cfg) (number start : Int) (ao : Option Addr) (cap : Nat) (l : List Int) (n : Int) (w : World) (hsl : Sl w 1 ao l.length cap (iv l)) (hb1 : n ≤ 9223372036854775807) (hb2 : -9223372036854775808 ≤ n) :
    Calls Try.prog 128 #[.agg (epC c number start ao l.length cap).toArray, .func (Fn.func 130) #[] #[], .int .i64 n] w fun e w' => e = .returned (.bool (egood c number start l && eleads l n)) ∧ Same w w' := by
  have hinf := Lib.hid (ep_info c number start ao l.length cap)
  have hgd := fun w h => egood_any c number start ao l.length cap l w h
  have hask := fun (w : World) (hok : EpOk c start l) (h : Sl w 1 ao l.length cap (iv l)) => eleads_any c number start ao l.length cap l n w h
  obtain ⟨H, hH⟩ : ∃ H, H = eleads l n := ⟨_, rfl⟩
  rw [← hH] at hask ⊢
  clear hH hb1 hb2
  replace hsl := Lib.hid hsl
  cases hG : egood c number start l
  · rw [hG] at hgd
    replace hgd := Lib.hid hgd
    clear hG hask
    go_enter Try.func128, Try.ntmps128
    go_upto_region 1 with (refine box_row rfl _ _ rfl _ rfl hinf.out ?_; intro w0 hbx hs0; replace hs0 := Lib.hid hs0; replace hbx := Lib.hid hbx)
    go_wp2_with (refine load_row rfl _ _ rfl w.heap.size rfl _ _ _ _ hbx.out Try.underlying124 rfl hinf.out ?_)
    refine (hgd.out _ (hsl.out.same hs0.out)).mono ?_
    rintro e w1 ⟨rfl, hs1⟩
    go_wp2
    go_ret
    exact ⟨rfl, hs0.out.trans hs1⟩
  · have hok := egood_ok hG
    rw [hG] at hgd
    replace hask := fun w h => hask w hok h
    replace hask := Lib.hid hask
    replace hgd := Lib.hid hgd
    clear hG hok
    go_enter Try.func128, Try.ntmps128
    go_upto_region 1 with (refine box_row rfl _ _ rfl _ rfl hinf.out ?_; intro w0 hbx hs0; have hbxl := blk_lt hbx; replace hs0 := Lib.hid hs0; replace hbx := Lib.hid hbx)
    go_wp2_with (refine load_row rfl _ _ rfl w.heap.size rfl _ _ _ _ hbx.out Try.underlying124 rfl hinf.out ?_)
    refine (hgd.out _ (hsl.out.same hs0.out)).mono ?_
    rintro e w1 ⟨rfl, hs1⟩
    have hbx1 := (hs1.block _ hbxl).trans hbx.out
    have hw1 := hs0.out.trans hs1
    clear hs1 hs0 hbx
    replace hw1 := Lib.hid hw1
    replace hbx1 := Lib.hid hbx1
    go_wp2_with (refine load_row rfl _ _ rfl w.heap.size rfl _ _ _ _ hbx1.out Try.underlying124 rfl hinf.out ?_)
    refine (hask.out _ (hsl.out.same hw1.out)).mono ?_
    rintro e w2 ⟨rfl, hs2⟩
    go_wp2
    go_ret
    exact ⟨rfl, hw1.out.trans hs2⟩
def eend (c : Cfg) (number start : Int) (l : List Int) : Int := if egood c number start l then start + esize c l else 0
set_option maxRecDepth 100000 in
set_option maxHeartbeats 800000 in
theorem eend_any (c : Cfg) (number start : Int) (ao : Option Addr) (cap : Nat) (l : List Int) (w : World) (hsl : Sl w 1 ao l.length cap (iv l)) :
    Calls Try.prog 60 #[.agg (epC c number start ao l.length cap).toArray] w fun e w' => e = .returned (.int .i64 (eend c number start l)) ∧ Same w w' := by
  have hinf := Lib.hid (ep_info c number start ao l.length cap)
  have hgd := fun w h => egood_any c number start ao l.length cap l w h
  unfold eend
  replace hsl := Lib.hid hsl
  cases hG : egood c number start l
  · rw [hG] at hgd
    replace hgd := Lib.hid hgd
    rw [if_neg (by simp)]
    clear hG
    go_enter Try.func60, Try.ntmps60
    go_upto_region 1 with (refine box_row rfl _ _ rfl _ rfl hinf.out ?_; intro w0 hbx hs0; replace hs0 := Lib.hid hs0; replace hbx := Lib.hid hbx)
    go_wp2_with (refine load_row rfl _ _ rfl w.heap.size rfl _ _ _ _ hbx.out Try.underlying124 rfl hinf.out ?_)
    refine (hgd.out _ (hsl.out.same hs0.out)).mono ?_
    rintro e w1 ⟨rfl, hs1⟩
    go_wp2
    go_ret
    exact ⟨rfl, hs0.out.trans hs1⟩
  · have hok := egood_ok hG
    rw [hG] at hgd
    replace hgd := Lib.hid hgd
    rw [if_pos (by simp)]
    have hsz := fun w => esize_any c number start ao l.length cap w (by have := hok.s1; omega) hok.s2 hok.len
    rw [show (l.length : Int) * c.slots = esize c l from rfl] at hsz
    have b1 := hok.b1
    have b2 := hok.b2
    have z1 := hok.z1
    have z2 := hok.z2
    obtain ⟨Z, hZ⟩ : ∃ Z, Z = esize c l := ⟨_, rfl⟩
    rw [← hZ] at hsz b2 z1 z2 ⊢
    have hwr : IntKind.i64.wrap (start + Z) = start + Z := IntWalk.i64_in _ ⟨by omega, by omega⟩
    clear hG hok hZ
    replace hsz := Lib.hid hsz
    go_enter Try.func60, Try.ntmps60
    go_upto_region 1 with (refine box_row rfl _ _ rfl _ rfl hinf.out ?_; intro w0 hbx hs0; have hbxl := blk_lt hbx; replace hs0 := Lib.hid hs0; replace hbx := Lib.hid hbx)
    go_wp2_with (refine load_row rfl _ _ rfl w.heap.size rfl _ _ _ _ hbx.out Try.underlying124 rfl hinf.out ?_)
    refine (hgd.out _ (hsl.out.same hs0.out)).mono ?_
    rintro e w1 ⟨rfl, hs1⟩
    have hbx1 := (hs1.block _ hbxl).trans hbx.out
    have hw1 := hs0.out.trans hs1
    have e1 := ep_start hbx1
    have hbx1l := blk_lt hbx1
    clear hs1 hs0 hbx
    replace hw1 := Lib.hid hw1
    replace hbx1 := Lib.hid hbx1
    replace e1 := Lib.hid e1
    go_upto_region 3 with fail
    refine wp_region_tails (by kernel_rfl) [(6, 0), (7, 1), (8, 2), (9, 3)] Same (Same _) [isV (.pointer (some ⟨w.heap.size, 11, none⟩)), isV (.int .i64 start), isV (.agg (epC c number start ao l.length cap).toArray), isV (.int .i64 Z)] Same.refl.drew (fun _ _ h k => h.trans k) (by simp [isV_stable, isB_stable, isAny_stable]) (by decide) (l := [_, _, _, _]) rfl (by decide) (by kernel_rfl) ?_ ?_
    · refine ⟨?_, ?_, ?_, ?_, trivial⟩
      all_goals (intro u wx hI hp; simp only [mkAct, List.foldl_cons, List.foldl_nil, List.setIfInBounds_toArray, List.set_cons_succ, List.set_cons_zero])
      · -- operation 0
        go_wp2
        refine stq_v rfl Same.refl ?_
        first | (simp only [mkAct, List.foldl_cons, List.foldl_nil, List.setIfInBounds_toArray, List.set_cons_succ, List.set_cons_zero, upd, reduceIte, Nat.reduceEqDiff, Nat.reduceAdd, str]; done) | (simp [mkAct, upd, str, *]; done)
      · -- operation 1
        obtain ⟨f0, -⟩ := hp
        replace f0 : u 0 = (.pointer (some ⟨w.heap.size, 11, none⟩)) := f0
        try simp only [f0, str]
        have cx := hI.cell (e1.out)
        go_wp2
        refine stq_v rfl Same.refl ?_
        first | (simp only [mkAct, List.foldl_cons, List.foldl_nil, List.setIfInBounds_toArray, List.set_cons_succ, List.set_cons_zero, upd, reduceIte, Nat.reduceEqDiff, Nat.reduceAdd, f0, str]; done) | (simp [mkAct, upd, f0, str, *]; done)
      · -- operation 2
        go_wp2_with (refine load_row rfl _ _ rfl w.heap.size rfl _ _ _ _ ((hI.block _ hbx1l).trans hbx1.out) Try.underlying124 rfl hinf.out ?_)
        refine stq_v rfl Same.refl ?_
        first | (simp only [mkAct, List.foldl_cons, List.foldl_nil, List.setIfInBounds_toArray, List.set_cons_succ, List.set_cons_zero, upd, reduceIte, Nat.reduceEqDiff, Nat.reduceAdd, str]; done) | (simp [mkAct, upd, str, *]; done)
      · -- operation 3
        obtain ⟨f2, -⟩ := hp
        replace f2 : u 2 = (.agg (epC c number start ao l.length cap).toArray) := f2
        try simp only [f2, str]
        go_wp2_with fail
        refine (hsz.out _).mono ?_
        rintro e w1 ⟨rfl, hs'⟩
        go_wp2
        refine stq_v rfl hs' ?_
        first | (simp only [mkAct, List.foldl_cons, List.foldl_nil, List.setIfInBounds_toArray, List.set_cons_succ, List.set_cons_zero, upd, reduceIte, Nat.reduceEqDiff, Nat.reduceAdd, f2, str]; done) | (simp [mkAct, upd, f2, str, *]; done)
    · intro u wx hI hR
      obtain ⟨r0, r1, r2, r3, -⟩ := hR
      replace r0 : u 0 = (.pointer (some ⟨w.heap.size, 11, none⟩)) := r0
      replace r1 : u 1 = (.int .i64 start) := r1
      replace r2 : u 2 = (.agg (epC c number start ao l.length cap).toArray) := r2
      replace r3 : u 3 = (.int .i64 Z) := r3
      simp only [mkAct, List.foldl_cons, List.foldl_nil, List.setIfInBounds_toArray, List.set_cons_succ, List.set_cons_zero]
      try simp only [str, r0, r1, r2, r3]
      go_wp2
      go_ret
      exact ⟨rfl, hw1.out.trans hI⟩
end Go.Proofs.Ytmacgmmjgdmleaa
