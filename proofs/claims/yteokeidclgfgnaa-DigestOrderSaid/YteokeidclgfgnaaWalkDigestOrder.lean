/-
  The walk of the law DigestOrder: whatever two digests, it answers true and turns nothing that was there.
-/
-- @law rep digest, rep digest
import Derived.Test.YteokeidclgfgnaaLives3
import Derived.Test.YteokeidclgfgnaaRd
import Derived.Test.YteokeidclgfgnaaEq
import Derived.Deep.DeepCutAuto
namespace Go.Proofs.Yteokeidclgfgnaa
open Go Go.RowKit
set_option linter.unusedSimpArgs false
set_option linter.unusedVariables false

theorem hexd_less : ∀ a b : Fin 16, decide (Sha.hexd a.val < Sha.hexd b.val) = decide (a.val < b.val) ∧ (Sha.hexd a.val == Sha.hexd b.val) = decide (a.val = b.val) := by decide +kernel
/-- The texts stand as the digests do. -/
theorem text_less : ∀ l m : List UInt8, Op.bytesLess (Sha.text l) (Sha.text m) = Op.bytesLess l m := by
  intro l
  induction l with
  | nil =>
    intro m
    rcases m with _ | ⟨y, m⟩ <;> rfl
  | cons x l ih =>
    intro m
    rcases m with _ | ⟨y, m⟩
    · rfl
    · have hx := x.toNat_lt
      have hy := y.toNat_lt
      have h1 := hexd_less ⟨x.toNat / 16, by omega⟩ ⟨y.toNat / 16, by omega⟩
      have h2 := hexd_less ⟨x.toNat % 16, by omega⟩ ⟨y.toNat % 16, by omega⟩
      have e1 : Sha.text (x :: l) = Sha.hexd (x.toNat / 16) :: Sha.hexd (x.toNat % 16) :: Sha.text l := rfl
      have e2 : Sha.text (y :: m) = Sha.hexd (y.toNat / 16) :: Sha.hexd (y.toNat % 16) :: Sha.text m := rfl
      rw [e1, e2, Op.bytesLess, Op.bytesLess, Op.bytesLess, h1.1, h1.2, h2.1, h2.2, ih]
      have e3 : decide (x < y) = decide (x.toNat < y.toNat) := by rw [decide_eq_decide, UInt8.lt_iff_toNat_lt]
      have e4 : (x == y) = decide (x.toNat = y.toNat) := by rw [Bool.eq_iff_iff, beq_iff_eq, decide_eq_true_eq, ← UInt8.toNat_inj]
      rw [e3, e4]
      generalize Op.bytesLess l m = b
      rw [Bool.eq_iff_iff]
      simp only [Bool.or_eq_true, Bool.and_eq_true, decide_eq_true_eq]
      constructor
      · rintro (h | ⟨h, h' | ⟨h', h''⟩⟩)
        · exact .inl (by omega)
        · exact .inl (by omega)
        · exact .inr ⟨by omega, h''⟩
      · rintro (h | ⟨h, h'⟩)
        · by_cases h3 : x.toNat / 16 < y.toNat / 16
          · exact .inl h3
          · exact .inr ⟨by omega, .inl (by omega)⟩
        · exact .inr ⟨by omega, .inr ⟨by omega, h'⟩⟩
/-- Of unlike ones of one length just one stands ahead. -/
theorem bytesLess_one : ∀ l m : List UInt8, l.length = m.length → (Op.bytesLess l m || Op.bytesLess m l) = (l != m) ∧ (Op.bytesLess l m && Op.bytesLess m l) = false := by
  intro l
  induction l with
  | nil =>
    intro m h
    rcases m with _ | ⟨y, m⟩
    · exact ⟨rfl, rfl⟩
    · simp at h
  | cons x l ih =>
    intro m h
    rcases m with _ | ⟨y, m⟩
    · simp at h
    · obtain ⟨h1, h2⟩ := ih m (by simpa using h)
      have e3 : decide (x < y) = decide (x.toNat < y.toNat) := by rw [decide_eq_decide, UInt8.lt_iff_toNat_lt]
      have e4 : decide (y < x) = decide (y.toNat < x.toNat) := by rw [decide_eq_decide, UInt8.lt_iff_toNat_lt]
      by_cases hxy : x = y
      · subst hxy
        simp only [Op.bytesLess, e3, Nat.lt_irrefl, decide_false, Bool.false_or, BEq.rfl, Bool.true_and]
        refine ⟨?_, h2⟩
        rw [h1]
        simp [bne]
      · have h3 : x.toNat ≠ y.toNat := fun h => hxy (UInt8.toNat_inj.1 h)
        have h4 : (x == y) = false := by simpa using hxy
        have h5 : (y == x) = false := by simpa using fun h => hxy h.symm
        simp only [Op.bytesLess, e3, e4, h4, h5, Bool.false_and, Bool.or_false]
        have h6 : (x :: l != y :: m) = true := by simp [hxy]
        rw [h6]
        rcases Nat.lt_or_gt_of_ne h3 with h | h
        · simp [h]; omega
        · simp [h]; omega
set_option maxRecDepth 100000 in
set_option maxHeartbeats 1600000 in
theorem order_1 (w : World) (l m : List UInt8) (hl : l.length = 32) (hm : m.length = 32) (h1 : Op.bytesLess l m = true) (h2 : Op.bytesLess m l = false) (h3 : (l != m) = true) :
    Calls Try.prog 4 #[.agg (bv l).toArray, .agg (bv m).toArray] w fun e w' => e = .returned (.bool true) ∧ Same w w' := by
  have hlives := Lib.hid lives3
  have hinf := Lib.hid (dig_info hl)
  have hinf2 := Lib.hid (dig_info hm)
  have hlm := less_any l m hl hm
  have hml := less_any m l hm hl
  have hr := rless_any l m hl hm
  rw [h1] at hlm hr
  rw [h2] at hml
  have htl := Lib.hid (dtext_any l hl)
  have htm := Lib.hid (dtext_any m hm)
  have hle := text_less l m
  rw [h1] at hle
  have hne := fun w => dig_neq l m hl hm w
  rw [h3] at hne
  replace hlm := Lib.hid hlm
  replace hml := Lib.hid hml
  replace hr := Lib.hid hr
  replace hne := Lib.hid hne
  replace hle := Lib.hid hle
  clear h1 h2 h3
  go_enter Try.func4, Try.ntmps4
  go_wp2_with (first | (refine box_row rfl _ _ rfl _ rfl hinf.out ?_; intro w0 hbx hs0; have hb0 := blk_lt hbx; replace hbx := Lib.hid hbx; replace hs0 := Lib.hid hs0) | (refine box_row rfl _ _ rfl _ rfl hinf2.out ?_; intro w1 hbx1 hs1; have hb1 := blk_lt hbx1; have hbx2 := (hs1.block _ hb0).trans hbx.out; replace hbx2 := Lib.hid hbx2; replace hbx1 := Lib.hid hbx1; replace hs1 := Lib.hid hs1))
  have hb02 := blk_lt hbx2.out
  refine wp_region_last (by kernel_rfl) [(5, 0), (6, 1), (7, 2), (8, 3), (9, 4), (10, 5), (11, 6), (12, 7), (13, 8), (14, 9), (15, 10), (16, 11), (17, 12), (18, 13), (19, 14), (20, 15), (21, 16), (22, 17), (23, 18), (24, 19), (25, 20), (26, 21), (27, 22), (28, 23), (29, 24), (30, 25), (31, 26), (32, 27), (33, 28), (34, 29), (35, 30), (36, 31), (37, 32), (38, 33), (39, 34), (40, 35), (41, 36), (42, 37), (43, 38), (44, 39), (45, 40), (46, 41), (47, 42), (48, 43), (49, 44), (50, 45), (4, 46)] Same (Same _) [isV (.agg (bv l).toArray), isV (.agg (bv m).toArray), isV (.bool true), isV (.agg (bv l).toArray), isV (.agg (bv m).toArray), isV (.bool true), isV (.bool true), isV (.bool true), isV (.agg (bv l).toArray), isV (.agg (bv m).toArray), isV (.bool true), isV (.agg (bv l).toArray), isV (str (Sha.text l)), isV (.agg (bv m).toArray), isV (str (Sha.text m)), isV (.bool true), isV (.bool true), isV (.bool true), isV (.bool true), isV (.agg (bv l).toArray), isV (.agg (bv m).toArray), isV (.bool true), isV (.bool true), isV undef, isV undef, isV undef, isV (.bool true), isV (.agg (bv l).toArray), isV (.agg (bv m).toArray), isV (.bool true), isV (.bool true), isV (.bool true), isV (.bool true), isV (.agg (bv l).toArray), isV (.agg (bv m).toArray), isV (.bool true), isV (.bool true), isV (.agg (bv m).toArray), isV (.agg (bv l).toArray), isV (.bool false), isV (.bool false), isV (.bool true), isV (.bool true), isV (.bool true), isV (.bool true), isV (.bool true)] Same.refl.drew (fun _ _ h k => h.trans k) (by simp [isV_stable, isB_stable, isAny_stable]) (by decide) (l := [_, _, _, _, _, _, _, _, _, _, _, _, _, _, _, _, _, _, _, _, _, _, _, _, _, _, _, _, _, _, _, _, _, _, _, _, _, _, _, _, _, _, _, _, _, _]) rfl (by decide) (by decide) ?_ ?_
  · refine ⟨?_, ?_, ?_, ?_, ?_, ?_, ?_, ?_, ?_, ?_, ?_, ?_, ?_, ?_, ?_, ?_, ?_, ?_, ?_, ?_, ?_, ?_, ?_, ?_, ?_, ?_, ?_, ?_, ?_, ?_, ?_, ?_, ?_, ?_, ?_, ?_, ?_, ?_, ?_, ?_, ?_, ?_, ?_, ?_, ?_, ?_, trivial⟩
    all_goals (intro u wx hI hp; simp only [mkAct, List.foldl_cons, List.foldl_nil, List.setIfInBounds_toArray, List.set_cons_succ, List.set_cons_zero])
    · -- operation 0
      go_wp2_with (refine load_row rfl _ _ rfl w.heap.size rfl _ _ _ _ ((hI.block _ hb02).trans hbx2.out) Try.underlying28 rfl hinf.out ?_)
      refine stq_v rfl Same.refl ?_
      first | (simp only [mkAct, List.foldl_cons, List.foldl_nil, List.setIfInBounds_toArray, List.set_cons_succ, List.set_cons_zero, upd, reduceIte, Nat.reduceEqDiff, Nat.reduceAdd, str]; done) | (simp [mkAct, upd, str, *]; done)
    · -- operation 1
      go_wp2_with (refine load_row rfl _ _ rfl w0.heap.size rfl _ _ _ _ ((hI.block _ hb1).trans hbx1.out) Try.underlying28 rfl hinf2.out ?_)
      refine stq_v rfl Same.refl ?_
      first | (simp only [mkAct, List.foldl_cons, List.foldl_nil, List.setIfInBounds_toArray, List.set_cons_succ, List.set_cons_zero, upd, reduceIte, Nat.reduceEqDiff, Nat.reduceAdd, str]; done) | (simp [mkAct, upd, str, *]; done)
    · -- operation 2
      obtain ⟨f0, f1, -⟩ := hp
      replace f0 : u 0 = (.agg (bv l).toArray) := f0
      replace f1 : u 1 = (.agg (bv m).toArray) := f1
      try simp only [f0, f1, str]
      go_wp2_with fail
      refine (hlm.out _).mono ?_
      rintro e w1 ⟨rfl, hs'⟩
      go_wp2
      refine stq_v rfl hs' ?_
      first | (simp only [mkAct, List.foldl_cons, List.foldl_nil, List.setIfInBounds_toArray, List.set_cons_succ, List.set_cons_zero, upd, reduceIte, Nat.reduceEqDiff, Nat.reduceAdd, f0, f1, str]; done) | (simp [mkAct, upd, f0, f1, str, *]; done)
    · -- operation 3
      go_wp2_with (refine load_row rfl _ _ rfl w.heap.size rfl _ _ _ _ ((hI.block _ hb02).trans hbx2.out) Try.underlying28 rfl hinf.out ?_)
      refine stq_v rfl Same.refl ?_
      first | (simp only [mkAct, List.foldl_cons, List.foldl_nil, List.setIfInBounds_toArray, List.set_cons_succ, List.set_cons_zero, upd, reduceIte, Nat.reduceEqDiff, Nat.reduceAdd, str]; done) | (simp [mkAct, upd, str, *]; done)
    · -- operation 4
      go_wp2_with (refine load_row rfl _ _ rfl w0.heap.size rfl _ _ _ _ ((hI.block _ hb1).trans hbx1.out) Try.underlying28 rfl hinf2.out ?_)
      refine stq_v rfl Same.refl ?_
      first | (simp only [mkAct, List.foldl_cons, List.foldl_nil, List.setIfInBounds_toArray, List.set_cons_succ, List.set_cons_zero, upd, reduceIte, Nat.reduceEqDiff, Nat.reduceAdd, str]; done) | (simp [mkAct, upd, str, *]; done)
    · -- operation 5
      obtain ⟨f3, f4, -, -⟩ := hp
      replace f3 : u 3 = (.agg (bv l).toArray) := f3
      replace f4 : u 4 = (.agg (bv m).toArray) := f4
      try simp only [f3, f4, str]
      go_wp2_with fail
      refine (hr.out _).mono ?_
      rintro e w1 ⟨rfl, hs'⟩
      go_wp2
      refine stq_v rfl hs' ?_
      first | (simp only [mkAct, List.foldl_cons, List.foldl_nil, List.setIfInBounds_toArray, List.set_cons_succ, List.set_cons_zero, upd, reduceIte, Nat.reduceEqDiff, Nat.reduceAdd, f3, f4, str]; done) | (simp [mkAct, upd, f3, f4, str, *]; done)
    · -- operation 6
      obtain ⟨f2, f5, -⟩ := hp
      replace f2 : u 2 = (.bool true) := f2
      replace f5 : u 5 = (.bool true) := f5
      try simp only [f2, f5, str]
      go_wp2
      refine stq_v rfl Same.refl ?_
      first | (simp only [mkAct, List.foldl_cons, List.foldl_nil, List.setIfInBounds_toArray, List.set_cons_succ, List.set_cons_zero, upd, reduceIte, Nat.reduceEqDiff, Nat.reduceAdd, f2, f5, str]; done) | (simp [mkAct, upd, f2, f5, str, *]; done)
    · -- operation 7
      obtain ⟨f6, -, -⟩ := hp
      replace f6 : u 6 = (.bool true) := f6
      try simp only [f6, str]
      go_wp2
      refine stq_v rfl Same.refl ?_
      first | (simp only [mkAct, List.foldl_cons, List.foldl_nil, List.setIfInBounds_toArray, List.set_cons_succ, List.set_cons_zero, upd, reduceIte, Nat.reduceEqDiff, Nat.reduceAdd, f6, str]; done) | (simp [mkAct, upd, f6, str, *]; done)
    · -- operation 8
      obtain ⟨f7, -⟩ := hp
      replace f7 : u 7 = (.bool true) := f7
      try simp only [f7, str]
      go_wp2_with (refine load_row rfl _ _ rfl w.heap.size rfl _ _ _ _ ((hI.block _ hb02).trans hbx2.out) Try.underlying28 rfl hinf.out ?_)
      refine stq_v rfl Same.refl ?_
      first | (simp only [mkAct, List.foldl_cons, List.foldl_nil, List.setIfInBounds_toArray, List.set_cons_succ, List.set_cons_zero, upd, reduceIte, Nat.reduceEqDiff, Nat.reduceAdd, f7, str]; done) | (simp [mkAct, upd, f7, str, *]; done)
    · -- operation 9
      obtain ⟨f7, -⟩ := hp
      replace f7 : u 7 = (.bool true) := f7
      try simp only [f7, str]
      go_wp2_with (refine load_row rfl _ _ rfl w0.heap.size rfl _ _ _ _ ((hI.block _ hb1).trans hbx1.out) Try.underlying28 rfl hinf2.out ?_)
      refine stq_v rfl Same.refl ?_
      first | (simp only [mkAct, List.foldl_cons, List.foldl_nil, List.setIfInBounds_toArray, List.set_cons_succ, List.set_cons_zero, upd, reduceIte, Nat.reduceEqDiff, Nat.reduceAdd, f7, str]; done) | (simp [mkAct, upd, f7, str, *]; done)
    · -- operation 10
      obtain ⟨f8, f9, -, f7, -⟩ := hp
      replace f8 : u 8 = (.agg (bv l).toArray) := f8
      replace f9 : u 9 = (.agg (bv m).toArray) := f9
      replace f7 : u 7 = (.bool true) := f7
      try simp only [f8, f9, f7, str]
      go_wp2_with fail
      refine (hlm.out _).mono ?_
      rintro e w1 ⟨rfl, hs'⟩
      go_wp2
      refine stq_v rfl hs' ?_
      first | (simp only [mkAct, List.foldl_cons, List.foldl_nil, List.setIfInBounds_toArray, List.set_cons_succ, List.set_cons_zero, upd, reduceIte, Nat.reduceEqDiff, Nat.reduceAdd, f8, f9, f7, str]; done) | (simp [mkAct, upd, f8, f9, f7, str, *]; done)
    · -- operation 11
      obtain ⟨f7, -⟩ := hp
      replace f7 : u 7 = (.bool true) := f7
      try simp only [f7, str]
      go_wp2_with (refine load_row rfl _ _ rfl w.heap.size rfl _ _ _ _ ((hI.block _ hb02).trans hbx2.out) Try.underlying28 rfl hinf.out ?_)
      refine stq_v rfl Same.refl ?_
      first | (simp only [mkAct, List.foldl_cons, List.foldl_nil, List.setIfInBounds_toArray, List.set_cons_succ, List.set_cons_zero, upd, reduceIte, Nat.reduceEqDiff, Nat.reduceAdd, f7, str]; done) | (simp [mkAct, upd, f7, str, *]; done)
    · -- operation 12
      obtain ⟨f11, -, f7, -⟩ := hp
      replace f11 : u 11 = (.agg (bv l).toArray) := f11
      replace f7 : u 7 = (.bool true) := f7
      try simp only [f11, f7, str]
      go_wp2_with fail
      refine (htl.out _).mono ?_
      rintro e w1 ⟨rfl, hs'⟩
      go_wp2
      refine stq_v rfl hs' ?_
      first | (simp only [mkAct, List.foldl_cons, List.foldl_nil, List.setIfInBounds_toArray, List.set_cons_succ, List.set_cons_zero, upd, reduceIte, Nat.reduceEqDiff, Nat.reduceAdd, f11, f7, str]; done) | (simp [mkAct, upd, f11, f7, str, *]; done)
    · -- operation 13
      obtain ⟨f7, -⟩ := hp
      replace f7 : u 7 = (.bool true) := f7
      try simp only [f7, str]
      go_wp2_with (refine load_row rfl _ _ rfl w0.heap.size rfl _ _ _ _ ((hI.block _ hb1).trans hbx1.out) Try.underlying28 rfl hinf2.out ?_)
      refine stq_v rfl Same.refl ?_
      first | (simp only [mkAct, List.foldl_cons, List.foldl_nil, List.setIfInBounds_toArray, List.set_cons_succ, List.set_cons_zero, upd, reduceIte, Nat.reduceEqDiff, Nat.reduceAdd, f7, str]; done) | (simp [mkAct, upd, f7, str, *]; done)
    · -- operation 14
      obtain ⟨f13, -, f7, -⟩ := hp
      replace f13 : u 13 = (.agg (bv m).toArray) := f13
      replace f7 : u 7 = (.bool true) := f7
      try simp only [f13, f7, str]
      go_wp2_with fail
      refine (htm.out _).mono ?_
      rintro e w1 ⟨rfl, hs'⟩
      go_wp2
      refine stq_v rfl hs' ?_
      first | (simp only [mkAct, List.foldl_cons, List.foldl_nil, List.setIfInBounds_toArray, List.set_cons_succ, List.set_cons_zero, upd, reduceIte, Nat.reduceEqDiff, Nat.reduceAdd, f13, f7, str]; done) | (simp [mkAct, upd, f13, f7, str, *]; done)
    · -- operation 15
      obtain ⟨f12, f14, f7, -⟩ := hp
      replace f12 : u 12 = (str (Sha.text l)) := f12
      replace f14 : u 14 = (str (Sha.text m)) := f14
      replace f7 : u 7 = (.bool true) := f7
      try simp only [f12, f14, f7, str]
      have hle := hle.out
      go_wp2
      refine stq_v rfl Same.refl ?_
      first | (simp only [mkAct, List.foldl_cons, List.foldl_nil, List.setIfInBounds_toArray, List.set_cons_succ, List.set_cons_zero, upd, reduceIte, Nat.reduceEqDiff, Nat.reduceAdd, f12, f14, f7, str]; done) | (simp [mkAct, upd, f12, f14, f7, str, *]; done)
    · -- operation 16
      obtain ⟨f10, f15, f7, -⟩ := hp
      replace f10 : u 10 = (.bool true) := f10
      replace f15 : u 15 = (.bool true) := f15
      replace f7 : u 7 = (.bool true) := f7
      try simp only [f10, f15, f7, str]
      go_wp2
      refine stq_v rfl Same.refl ?_
      first | (simp only [mkAct, List.foldl_cons, List.foldl_nil, List.setIfInBounds_toArray, List.set_cons_succ, List.set_cons_zero, upd, reduceIte, Nat.reduceEqDiff, Nat.reduceAdd, f10, f15, f7, str]; done) | (simp [mkAct, upd, f10, f15, f7, str, *]; done)
    · -- operation 17
      obtain ⟨f7, f16, -⟩ := hp
      replace f7 : u 7 = (.bool true) := f7
      replace f16 : u 16 = (.bool true) := f16
      try simp only [f7, f16, str]
      go_wp2
      refine stq_v rfl Same.refl ?_
      first | (simp only [mkAct, List.foldl_cons, List.foldl_nil, List.setIfInBounds_toArray, List.set_cons_succ, List.set_cons_zero, upd, reduceIte, Nat.reduceEqDiff, Nat.reduceAdd, f7, f16, str]; done) | (simp [mkAct, upd, f7, f16, str, *]; done)
    · -- operation 18
      obtain ⟨f17, -, -⟩ := hp
      replace f17 : u 17 = (.bool true) := f17
      try simp only [f17, str]
      go_wp2
      refine stq_v rfl Same.refl ?_
      first | (simp only [mkAct, List.foldl_cons, List.foldl_nil, List.setIfInBounds_toArray, List.set_cons_succ, List.set_cons_zero, upd, reduceIte, Nat.reduceEqDiff, Nat.reduceAdd, f17, str]; done) | (simp [mkAct, upd, f17, str, *]; done)
    · -- operation 19
      obtain ⟨f18, -⟩ := hp
      replace f18 : u 18 = (.bool true) := f18
      try simp only [f18, str]
      go_wp2_with (refine load_row rfl _ _ rfl w.heap.size rfl _ _ _ _ ((hI.block _ hb02).trans hbx2.out) Try.underlying28 rfl hinf.out ?_)
      refine stq_v rfl Same.refl ?_
      first | (simp only [mkAct, List.foldl_cons, List.foldl_nil, List.setIfInBounds_toArray, List.set_cons_succ, List.set_cons_zero, upd, reduceIte, Nat.reduceEqDiff, Nat.reduceAdd, f18, str]; done) | (simp [mkAct, upd, f18, str, *]; done)
    · -- operation 20
      obtain ⟨f18, -⟩ := hp
      replace f18 : u 18 = (.bool true) := f18
      try simp only [f18, str]
      go_wp2_with (refine load_row rfl _ _ rfl w0.heap.size rfl _ _ _ _ ((hI.block _ hb1).trans hbx1.out) Try.underlying28 rfl hinf2.out ?_)
      refine stq_v rfl Same.refl ?_
      first | (simp only [mkAct, List.foldl_cons, List.foldl_nil, List.setIfInBounds_toArray, List.set_cons_succ, List.set_cons_zero, upd, reduceIte, Nat.reduceEqDiff, Nat.reduceAdd, f18, str]; done) | (simp [mkAct, upd, f18, str, *]; done)
    · -- operation 21
      obtain ⟨f19, f20, -, f18, -⟩ := hp
      replace f19 : u 19 = (.agg (bv l).toArray) := f19
      replace f20 : u 20 = (.agg (bv m).toArray) := f20
      replace f18 : u 18 = (.bool true) := f18
      try simp only [f19, f20, f18, str]
      go_wp2_with fail
      refine (hlm.out _).mono ?_
      rintro e w1 ⟨rfl, hs'⟩
      go_wp2
      refine stq_v rfl hs' ?_
      first | (simp only [mkAct, List.foldl_cons, List.foldl_nil, List.setIfInBounds_toArray, List.set_cons_succ, List.set_cons_zero, upd, reduceIte, Nat.reduceEqDiff, Nat.reduceAdd, f19, f20, f18, str]; done) | (simp [mkAct, upd, f19, f20, f18, str, *]; done)
    · -- operation 22
      obtain ⟨f21, -, f18, -⟩ := hp
      replace f21 : u 21 = (.bool true) := f21
      replace f18 : u 18 = (.bool true) := f18
      try simp only [f21, f18, str]
      go_wp2
      refine stq_v rfl Same.refl ?_
      first | (simp only [mkAct, List.foldl_cons, List.foldl_nil, List.setIfInBounds_toArray, List.set_cons_succ, List.set_cons_zero, upd, reduceIte, Nat.reduceEqDiff, Nat.reduceAdd, f21, f18, str]; done) | (simp [mkAct, upd, f21, f18, str, *]; done)
    · -- operation 23
      obtain ⟨f22, -⟩ := hp
      replace f22 : u 22 = (.bool true) := f22
      try simp only [f22, str]
      go_wp2
      refine stq_v rfl Same.refl ?_
      first | (simp only [mkAct, List.foldl_cons, List.foldl_nil, List.setIfInBounds_toArray, List.set_cons_succ, List.set_cons_zero, upd, reduceIte, Nat.reduceEqDiff, Nat.reduceAdd, f22, str]; done) | (simp [mkAct, upd, f22, str, *]; done)
    · -- operation 24
      obtain ⟨f22, -⟩ := hp
      replace f22 : u 22 = (.bool true) := f22
      try simp only [f22, str]
      go_wp2
      refine stq_v rfl Same.refl ?_
      first | (simp only [mkAct, List.foldl_cons, List.foldl_nil, List.setIfInBounds_toArray, List.set_cons_succ, List.set_cons_zero, upd, reduceIte, Nat.reduceEqDiff, Nat.reduceAdd, f22, str]; done) | (simp [mkAct, upd, f22, str, *]; done)
    · -- operation 25
      obtain ⟨f23, f24, -, f22, -⟩ := hp
      replace f23 : u 23 = undef := f23
      replace f24 : u 24 = undef := f24
      replace f22 : u 22 = (.bool true) := f22
      try simp only [f23, f24, f22, str]
      go_wp2
      refine stq_v rfl Same.refl ?_
      first | (simp only [mkAct, List.foldl_cons, List.foldl_nil, List.setIfInBounds_toArray, List.set_cons_succ, List.set_cons_zero, upd, reduceIte, Nat.reduceEqDiff, Nat.reduceAdd, f23, f24, f22, str]; done) | (simp [mkAct, upd, f23, f24, f22, str, *]; done)
    · -- operation 26
      obtain ⟨f22, f25, f18, -⟩ := hp
      replace f22 : u 22 = (.bool true) := f22
      replace f25 : u 25 = undef := f25
      replace f18 : u 18 = (.bool true) := f18
      try simp only [f22, f25, f18, str]
      go_wp2
      refine stq_v rfl Same.refl ?_
      first | (simp only [mkAct, List.foldl_cons, List.foldl_nil, List.setIfInBounds_toArray, List.set_cons_succ, List.set_cons_zero, upd, reduceIte, Nat.reduceEqDiff, Nat.reduceAdd, f22, f25, f18, str]; done) | (simp [mkAct, upd, f22, f25, f18, str, *]; done)
    · -- operation 27
      obtain ⟨f18, -⟩ := hp
      replace f18 : u 18 = (.bool true) := f18
      try simp only [f18, str]
      go_wp2_with (refine load_row rfl _ _ rfl w.heap.size rfl _ _ _ _ ((hI.block _ hb02).trans hbx2.out) Try.underlying28 rfl hinf.out ?_)
      refine stq_v rfl Same.refl ?_
      first | (simp only [mkAct, List.foldl_cons, List.foldl_nil, List.setIfInBounds_toArray, List.set_cons_succ, List.set_cons_zero, upd, reduceIte, Nat.reduceEqDiff, Nat.reduceAdd, f18, str]; done) | (simp [mkAct, upd, f18, str, *]; done)
    · -- operation 28
      obtain ⟨f18, -⟩ := hp
      replace f18 : u 18 = (.bool true) := f18
      try simp only [f18, str]
      go_wp2_with (refine load_row rfl _ _ rfl w0.heap.size rfl _ _ _ _ ((hI.block _ hb1).trans hbx1.out) Try.underlying28 rfl hinf2.out ?_)
      refine stq_v rfl Same.refl ?_
      first | (simp only [mkAct, List.foldl_cons, List.foldl_nil, List.setIfInBounds_toArray, List.set_cons_succ, List.set_cons_zero, upd, reduceIte, Nat.reduceEqDiff, Nat.reduceAdd, f18, str]; done) | (simp [mkAct, upd, f18, str, *]; done)
    · -- operation 29
      obtain ⟨f27, f28, f18, -⟩ := hp
      replace f27 : u 27 = (.agg (bv l).toArray) := f27
      replace f28 : u 28 = (.agg (bv m).toArray) := f28
      replace f18 : u 18 = (.bool true) := f18
      try simp only [f27, f28, f18, str]
      have hne := hne.out
      have hgd := dig_guard
      go_wp2
      refine stq_v rfl Same.refl ?_
      first | (simp only [mkAct, List.foldl_cons, List.foldl_nil, List.setIfInBounds_toArray, List.set_cons_succ, List.set_cons_zero, upd, reduceIte, Nat.reduceEqDiff, Nat.reduceAdd, f27, f28, f18, str]; done) | (simp [mkAct, upd, f27, f28, f18, str, *]; done)
    · -- operation 30
      obtain ⟨f26, f29, f18, -⟩ := hp
      replace f26 : u 26 = (.bool true) := f26
      replace f29 : u 29 = (.bool true) := f29
      replace f18 : u 18 = (.bool true) := f18
      try simp only [f26, f29, f18, str]
      go_wp2
      refine stq_v rfl Same.refl ?_
      first | (simp only [mkAct, List.foldl_cons, List.foldl_nil, List.setIfInBounds_toArray, List.set_cons_succ, List.set_cons_zero, upd, reduceIte, Nat.reduceEqDiff, Nat.reduceAdd, f26, f29, f18, str]; done) | (simp [mkAct, upd, f26, f29, f18, str, *]; done)
    · -- operation 31
      obtain ⟨f18, f30, -⟩ := hp
      replace f18 : u 18 = (.bool true) := f18
      replace f30 : u 30 = (.bool true) := f30
      try simp only [f18, f30, str]
      go_wp2
      refine stq_v rfl Same.refl ?_
      first | (simp only [mkAct, List.foldl_cons, List.foldl_nil, List.setIfInBounds_toArray, List.set_cons_succ, List.set_cons_zero, upd, reduceIte, Nat.reduceEqDiff, Nat.reduceAdd, f18, f30, str]; done) | (simp [mkAct, upd, f18, f30, str, *]; done)
    · -- operation 32
      obtain ⟨f31, -, -⟩ := hp
      replace f31 : u 31 = (.bool true) := f31
      try simp only [f31, str]
      go_wp2
      refine stq_v rfl Same.refl ?_
      first | (simp only [mkAct, List.foldl_cons, List.foldl_nil, List.setIfInBounds_toArray, List.set_cons_succ, List.set_cons_zero, upd, reduceIte, Nat.reduceEqDiff, Nat.reduceAdd, f31, str]; done) | (simp [mkAct, upd, f31, str, *]; done)
    · -- operation 33
      obtain ⟨f32, -⟩ := hp
      replace f32 : u 32 = (.bool true) := f32
      try simp only [f32, str]
      go_wp2_with (refine load_row rfl _ _ rfl w.heap.size rfl _ _ _ _ ((hI.block _ hb02).trans hbx2.out) Try.underlying28 rfl hinf.out ?_)
      refine stq_v rfl Same.refl ?_
      first | (simp only [mkAct, List.foldl_cons, List.foldl_nil, List.setIfInBounds_toArray, List.set_cons_succ, List.set_cons_zero, upd, reduceIte, Nat.reduceEqDiff, Nat.reduceAdd, f32, str]; done) | (simp [mkAct, upd, f32, str, *]; done)
    · -- operation 34
      obtain ⟨f32, -⟩ := hp
      replace f32 : u 32 = (.bool true) := f32
      try simp only [f32, str]
      go_wp2_with (refine load_row rfl _ _ rfl w0.heap.size rfl _ _ _ _ ((hI.block _ hb1).trans hbx1.out) Try.underlying28 rfl hinf2.out ?_)
      refine stq_v rfl Same.refl ?_
      first | (simp only [mkAct, List.foldl_cons, List.foldl_nil, List.setIfInBounds_toArray, List.set_cons_succ, List.set_cons_zero, upd, reduceIte, Nat.reduceEqDiff, Nat.reduceAdd, f32, str]; done) | (simp [mkAct, upd, f32, str, *]; done)
    · -- operation 35
      obtain ⟨f33, f34, -, f32, -⟩ := hp
      replace f33 : u 33 = (.agg (bv l).toArray) := f33
      replace f34 : u 34 = (.agg (bv m).toArray) := f34
      replace f32 : u 32 = (.bool true) := f32
      try simp only [f33, f34, f32, str]
      go_wp2_with fail
      refine (hlm.out _).mono ?_
      rintro e w1 ⟨rfl, hs'⟩
      go_wp2
      refine stq_v rfl hs' ?_
      first | (simp only [mkAct, List.foldl_cons, List.foldl_nil, List.setIfInBounds_toArray, List.set_cons_succ, List.set_cons_zero, upd, reduceIte, Nat.reduceEqDiff, Nat.reduceAdd, f33, f34, f32, str]; done) | (simp [mkAct, upd, f33, f34, f32, str, *]; done)
    · -- operation 36
      obtain ⟨f35, -, f32, -⟩ := hp
      replace f35 : u 35 = (.bool true) := f35
      replace f32 : u 32 = (.bool true) := f32
      try simp only [f35, f32, str]
      go_wp2
      refine stq_v rfl Same.refl ?_
      first | (simp only [mkAct, List.foldl_cons, List.foldl_nil, List.setIfInBounds_toArray, List.set_cons_succ, List.set_cons_zero, upd, reduceIte, Nat.reduceEqDiff, Nat.reduceAdd, f35, f32, str]; done) | (simp [mkAct, upd, f35, f32, str, *]; done)
    · -- operation 37
      obtain ⟨f36, -⟩ := hp
      replace f36 : u 36 = (.bool true) := f36
      try simp only [f36, str]
      go_wp2_with (refine load_row rfl _ _ rfl w0.heap.size rfl _ _ _ _ ((hI.block _ hb1).trans hbx1.out) Try.underlying28 rfl hinf2.out ?_)
      refine stq_v rfl Same.refl ?_
      first | (simp only [mkAct, List.foldl_cons, List.foldl_nil, List.setIfInBounds_toArray, List.set_cons_succ, List.set_cons_zero, upd, reduceIte, Nat.reduceEqDiff, Nat.reduceAdd, f36, str]; done) | (simp [mkAct, upd, f36, str, *]; done)
    · -- operation 38
      obtain ⟨f36, -⟩ := hp
      replace f36 : u 36 = (.bool true) := f36
      try simp only [f36, str]
      go_wp2_with (refine load_row rfl _ _ rfl w.heap.size rfl _ _ _ _ ((hI.block _ hb02).trans hbx2.out) Try.underlying28 rfl hinf.out ?_)
      refine stq_v rfl Same.refl ?_
      first | (simp only [mkAct, List.foldl_cons, List.foldl_nil, List.setIfInBounds_toArray, List.set_cons_succ, List.set_cons_zero, upd, reduceIte, Nat.reduceEqDiff, Nat.reduceAdd, f36, str]; done) | (simp [mkAct, upd, f36, str, *]; done)
    · -- operation 39
      obtain ⟨f37, f38, -, f36, -⟩ := hp
      replace f37 : u 37 = (.agg (bv m).toArray) := f37
      replace f38 : u 38 = (.agg (bv l).toArray) := f38
      replace f36 : u 36 = (.bool true) := f36
      try simp only [f37, f38, f36, str]
      go_wp2_with fail
      refine (hml.out _).mono ?_
      rintro e w1 ⟨rfl, hs'⟩
      go_wp2
      refine stq_v rfl hs' ?_
      first | (simp only [mkAct, List.foldl_cons, List.foldl_nil, List.setIfInBounds_toArray, List.set_cons_succ, List.set_cons_zero, upd, reduceIte, Nat.reduceEqDiff, Nat.reduceAdd, f37, f38, f36, str]; done) | (simp [mkAct, upd, f37, f38, f36, str, *]; done)
    · -- operation 40
      obtain ⟨f36, f39, f32, -⟩ := hp
      replace f36 : u 36 = (.bool true) := f36
      replace f39 : u 39 = (.bool false) := f39
      replace f32 : u 32 = (.bool true) := f32
      try simp only [f36, f39, f32, str]
      go_wp2
      refine stq_v rfl Same.refl ?_
      first | (simp only [mkAct, List.foldl_cons, List.foldl_nil, List.setIfInBounds_toArray, List.set_cons_succ, List.set_cons_zero, upd, reduceIte, Nat.reduceEqDiff, Nat.reduceAdd, f36, f39, f32, str]; done) | (simp [mkAct, upd, f36, f39, f32, str, *]; done)
    · -- operation 41
      obtain ⟨f40, f32, -⟩ := hp
      replace f40 : u 40 = (.bool false) := f40
      replace f32 : u 32 = (.bool true) := f32
      try simp only [f40, f32, str]
      go_wp2
      refine stq_v rfl Same.refl ?_
      first | (simp only [mkAct, List.foldl_cons, List.foldl_nil, List.setIfInBounds_toArray, List.set_cons_succ, List.set_cons_zero, upd, reduceIte, Nat.reduceEqDiff, Nat.reduceAdd, f40, f32, str]; done) | (simp [mkAct, upd, f40, f32, str, *]; done)
    · -- operation 42
      obtain ⟨f32, f41, -⟩ := hp
      replace f32 : u 32 = (.bool true) := f32
      replace f41 : u 41 = (.bool true) := f41
      try simp only [f32, f41, str]
      go_wp2
      refine stq_v rfl Same.refl ?_
      first | (simp only [mkAct, List.foldl_cons, List.foldl_nil, List.setIfInBounds_toArray, List.set_cons_succ, List.set_cons_zero, upd, reduceIte, Nat.reduceEqDiff, Nat.reduceAdd, f32, f41, str]; done) | (simp [mkAct, upd, f32, f41, str, *]; done)
    · -- operation 43
      obtain ⟨f42, -, -⟩ := hp
      replace f42 : u 42 = (.bool true) := f42
      try simp only [f42, str]
      go_wp2
      refine stq_v rfl Same.refl ?_
      first | (simp only [mkAct, List.foldl_cons, List.foldl_nil, List.setIfInBounds_toArray, List.set_cons_succ, List.set_cons_zero, upd, reduceIte, Nat.reduceEqDiff, Nat.reduceAdd, f42, str]; done) | (simp [mkAct, upd, f42, str, *]; done)
    · -- operation 44
      obtain ⟨-, f43, -⟩ := hp
      replace f43 : u 43 = (.bool true) := f43
      try simp only [f43, str]
      go_wp2_with fail
      refine (hlives.out _).mono ?_
      rintro e w1 ⟨rfl, hs'⟩
      go_wp2
      refine stq_v rfl hs' ?_
      first | (simp only [mkAct, List.foldl_cons, List.foldl_nil, List.setIfInBounds_toArray, List.set_cons_succ, List.set_cons_zero, upd, reduceIte, Nat.reduceEqDiff, Nat.reduceAdd, f43, str]; done) | (simp [mkAct, upd, f43, str, *]; done)
    · -- operation 45
      obtain ⟨f43, f44, -⟩ := hp
      replace f43 : u 43 = (.bool true) := f43
      replace f44 : u 44 = (.bool true) := f44
      try simp only [f43, f44, str]
      go_wp2
      refine stq_v rfl Same.refl ?_
      first | (simp only [mkAct, List.foldl_cons, List.foldl_nil, List.setIfInBounds_toArray, List.set_cons_succ, List.set_cons_zero, upd, reduceIte, Nat.reduceEqDiff, Nat.reduceAdd, f43, f44, str]; done) | (simp [mkAct, upd, f43, f44, str, *]; done)
  · intro u wx hI hR
    obtain ⟨r0, r1, r2, r3, r4, r5, r6, r7, r8, r9, r10, r11, r12, r13, r14, r15, r16, r17, r18, r19, r20, r21, r22, r23, r24, r25, r26, r27, r28, r29, r30, r31, r32, r33, r34, r35, r36, r37, r38, r39, r40, r41, r42, r43, r44, r45, -⟩ := hR
    replace r0 : u 0 = (.agg (bv l).toArray) := r0
    replace r1 : u 1 = (.agg (bv m).toArray) := r1
    replace r2 : u 2 = (.bool true) := r2
    replace r3 : u 3 = (.agg (bv l).toArray) := r3
    replace r4 : u 4 = (.agg (bv m).toArray) := r4
    replace r5 : u 5 = (.bool true) := r5
    replace r6 : u 6 = (.bool true) := r6
    replace r7 : u 7 = (.bool true) := r7
    replace r8 : u 8 = (.agg (bv l).toArray) := r8
    replace r9 : u 9 = (.agg (bv m).toArray) := r9
    replace r10 : u 10 = (.bool true) := r10
    replace r11 : u 11 = (.agg (bv l).toArray) := r11
    replace r12 : u 12 = (str (Sha.text l)) := r12
    replace r13 : u 13 = (.agg (bv m).toArray) := r13
    replace r14 : u 14 = (str (Sha.text m)) := r14
    replace r15 : u 15 = (.bool true) := r15
    replace r16 : u 16 = (.bool true) := r16
    replace r17 : u 17 = (.bool true) := r17
    replace r18 : u 18 = (.bool true) := r18
    replace r19 : u 19 = (.agg (bv l).toArray) := r19
    replace r20 : u 20 = (.agg (bv m).toArray) := r20
    replace r21 : u 21 = (.bool true) := r21
    replace r22 : u 22 = (.bool true) := r22
    replace r23 : u 23 = undef := r23
    replace r24 : u 24 = undef := r24
    replace r25 : u 25 = undef := r25
    replace r26 : u 26 = (.bool true) := r26
    replace r27 : u 27 = (.agg (bv l).toArray) := r27
    replace r28 : u 28 = (.agg (bv m).toArray) := r28
    replace r29 : u 29 = (.bool true) := r29
    replace r30 : u 30 = (.bool true) := r30
    replace r31 : u 31 = (.bool true) := r31
    replace r32 : u 32 = (.bool true) := r32
    replace r33 : u 33 = (.agg (bv l).toArray) := r33
    replace r34 : u 34 = (.agg (bv m).toArray) := r34
    replace r35 : u 35 = (.bool true) := r35
    replace r36 : u 36 = (.bool true) := r36
    replace r37 : u 37 = (.agg (bv m).toArray) := r37
    replace r38 : u 38 = (.agg (bv l).toArray) := r38
    replace r39 : u 39 = (.bool false) := r39
    replace r40 : u 40 = (.bool false) := r40
    replace r41 : u 41 = (.bool true) := r41
    replace r42 : u 42 = (.bool true) := r42
    replace r43 : u 43 = (.bool true) := r43
    replace r44 : u 44 = (.bool true) := r44
    replace r45 : u 45 = (.bool true) := r45
    simp only [mkAct, List.foldl_cons, List.foldl_nil, List.setIfInBounds_toArray, List.set_cons_succ, List.set_cons_zero]
    try simp only [str, r0, r1, r2, r3, r4, r5, r6, r7, r8, r9, r10, r11, r12, r13, r14, r15, r16, r17, r18, r19, r20, r21, r22, r23, r24, r25, r26, r27, r28, r29, r30, r31, r32, r33, r34, r35, r36, r37, r38, r39, r40, r41, r42, r43, r44, r45]
    go_wp2
    go_ret
    exact ⟨rfl, (hs0.out.trans hs1.out).trans hI⟩
set_option maxRecDepth 100000 in
set_option maxHeartbeats 1600000 in
theorem order_2 (w : World) (l m : List UInt8) (hl : l.length = 32) (hm : m.length = 32) (h1 : Op.bytesLess l m = false) (h2 : Op.bytesLess m l = true) (h3 : (l != m) = true) :
    Calls Try.prog 4 #[.agg (bv l).toArray, .agg (bv m).toArray] w fun e w' => e = .returned (.bool true) ∧ Same w w' := by
  have hlives := Lib.hid lives3
  have hinf := Lib.hid (dig_info hl)
  have hinf2 := Lib.hid (dig_info hm)
  have hlm := less_any l m hl hm
  have hml := less_any m l hm hl
  have hr := rless_any l m hl hm
  rw [h1] at hlm hr
  rw [h2] at hml
  have htl := Lib.hid (dtext_any l hl)
  have htm := Lib.hid (dtext_any m hm)
  have hle := text_less l m
  rw [h1] at hle
  have hne := fun w => dig_neq l m hl hm w
  rw [h3] at hne
  replace hlm := Lib.hid hlm
  replace hml := Lib.hid hml
  replace hr := Lib.hid hr
  replace hne := Lib.hid hne
  replace hle := Lib.hid hle
  clear h1 h2 h3
  go_enter Try.func4, Try.ntmps4
  go_wp2_with (first | (refine box_row rfl _ _ rfl _ rfl hinf.out ?_; intro w0 hbx hs0; have hb0 := blk_lt hbx; replace hbx := Lib.hid hbx; replace hs0 := Lib.hid hs0) | (refine box_row rfl _ _ rfl _ rfl hinf2.out ?_; intro w1 hbx1 hs1; have hb1 := blk_lt hbx1; have hbx2 := (hs1.block _ hb0).trans hbx.out; replace hbx2 := Lib.hid hbx2; replace hbx1 := Lib.hid hbx1; replace hs1 := Lib.hid hs1))
  have hb02 := blk_lt hbx2.out
  refine wp_region_last (by kernel_rfl) [(5, 0), (6, 1), (7, 2), (8, 3), (9, 4), (10, 5), (11, 6), (12, 7), (13, 8), (14, 9), (15, 10), (16, 11), (17, 12), (18, 13), (19, 14), (20, 15), (21, 16), (22, 17), (23, 18), (24, 19), (25, 20), (26, 21), (27, 22), (28, 23), (29, 24), (30, 25), (31, 26), (32, 27), (33, 28), (34, 29), (35, 30), (36, 31), (37, 32), (38, 33), (39, 34), (40, 35), (41, 36), (42, 37), (43, 38), (44, 39), (45, 40), (46, 41), (47, 42), (48, 43), (49, 44), (50, 45), (4, 46)] Same (Same _) [isV (.agg (bv l).toArray), isV (.agg (bv m).toArray), isV (.bool false), isV (.agg (bv l).toArray), isV (.agg (bv m).toArray), isV (.bool false), isV (.bool true), isV (.bool true), isV (.agg (bv l).toArray), isV (.agg (bv m).toArray), isV (.bool false), isV (.agg (bv l).toArray), isV (str (Sha.text l)), isV (.agg (bv m).toArray), isV (str (Sha.text m)), isV (.bool false), isV (.bool true), isV (.bool true), isV (.bool true), isV (.agg (bv l).toArray), isV (.agg (bv m).toArray), isV (.bool false), isV (.bool false), isV (.agg (bv m).toArray), isV (.agg (bv l).toArray), isV (.bool true), isV (.bool true), isV (.agg (bv l).toArray), isV (.agg (bv m).toArray), isV (.bool true), isV (.bool true), isV (.bool true), isV (.bool true), isV (.agg (bv l).toArray), isV (.agg (bv m).toArray), isV (.bool false), isV (.bool false), isV undef, isV undef, isV undef, isV (.bool false), isV (.bool true), isV (.bool true), isV (.bool true), isV (.bool true), isV (.bool true)] Same.refl.drew (fun _ _ h k => h.trans k) (by simp [isV_stable, isB_stable, isAny_stable]) (by decide) (l := [_, _, _, _, _, _, _, _, _, _, _, _, _, _, _, _, _, _, _, _, _, _, _, _, _, _, _, _, _, _, _, _, _, _, _, _, _, _, _, _, _, _, _, _, _, _]) rfl (by decide) (by decide) ?_ ?_
  · refine ⟨?_, ?_, ?_, ?_, ?_, ?_, ?_, ?_, ?_, ?_, ?_, ?_, ?_, ?_, ?_, ?_, ?_, ?_, ?_, ?_, ?_, ?_, ?_, ?_, ?_, ?_, ?_, ?_, ?_, ?_, ?_, ?_, ?_, ?_, ?_, ?_, ?_, ?_, ?_, ?_, ?_, ?_, ?_, ?_, ?_, ?_, trivial⟩
    all_goals (intro u wx hI hp; simp only [mkAct, List.foldl_cons, List.foldl_nil, List.setIfInBounds_toArray, List.set_cons_succ, List.set_cons_zero])
    · -- operation 0
      go_wp2_with (refine load_row rfl _ _ rfl w.heap.size rfl _ _ _ _ ((hI.block _ hb02).trans hbx2.out) Try.underlying28 rfl hinf.out ?_)
      refine stq_v rfl Same.refl ?_
      first | (simp only [mkAct, List.foldl_cons, List.foldl_nil, List.setIfInBounds_toArray, List.set_cons_succ, List.set_cons_zero, upd, reduceIte, Nat.reduceEqDiff, Nat.reduceAdd, str]; done) | (simp [mkAct, upd, str, *]; done)
    · -- operation 1
      go_wp2_with (refine load_row rfl _ _ rfl w0.heap.size rfl _ _ _ _ ((hI.block _ hb1).trans hbx1.out) Try.underlying28 rfl hinf2.out ?_)
      refine stq_v rfl Same.refl ?_
      first | (simp only [mkAct, List.foldl_cons, List.foldl_nil, List.setIfInBounds_toArray, List.set_cons_succ, List.set_cons_zero, upd, reduceIte, Nat.reduceEqDiff, Nat.reduceAdd, str]; done) | (simp [mkAct, upd, str, *]; done)
    · -- operation 2
      obtain ⟨f0, f1, -⟩ := hp
      replace f0 : u 0 = (.agg (bv l).toArray) := f0
      replace f1 : u 1 = (.agg (bv m).toArray) := f1
      try simp only [f0, f1, str]
      go_wp2_with fail
      refine (hlm.out _).mono ?_
      rintro e w1 ⟨rfl, hs'⟩
      go_wp2
      refine stq_v rfl hs' ?_
      first | (simp only [mkAct, List.foldl_cons, List.foldl_nil, List.setIfInBounds_toArray, List.set_cons_succ, List.set_cons_zero, upd, reduceIte, Nat.reduceEqDiff, Nat.reduceAdd, f0, f1, str]; done) | (simp [mkAct, upd, f0, f1, str, *]; done)
    · -- operation 3
      go_wp2_with (refine load_row rfl _ _ rfl w.heap.size rfl _ _ _ _ ((hI.block _ hb02).trans hbx2.out) Try.underlying28 rfl hinf.out ?_)
      refine stq_v rfl Same.refl ?_
      first | (simp only [mkAct, List.foldl_cons, List.foldl_nil, List.setIfInBounds_toArray, List.set_cons_succ, List.set_cons_zero, upd, reduceIte, Nat.reduceEqDiff, Nat.reduceAdd, str]; done) | (simp [mkAct, upd, str, *]; done)
    · -- operation 4
      go_wp2_with (refine load_row rfl _ _ rfl w0.heap.size rfl _ _ _ _ ((hI.block _ hb1).trans hbx1.out) Try.underlying28 rfl hinf2.out ?_)
      refine stq_v rfl Same.refl ?_
      first | (simp only [mkAct, List.foldl_cons, List.foldl_nil, List.setIfInBounds_toArray, List.set_cons_succ, List.set_cons_zero, upd, reduceIte, Nat.reduceEqDiff, Nat.reduceAdd, str]; done) | (simp [mkAct, upd, str, *]; done)
    · -- operation 5
      obtain ⟨f3, f4, -, -⟩ := hp
      replace f3 : u 3 = (.agg (bv l).toArray) := f3
      replace f4 : u 4 = (.agg (bv m).toArray) := f4
      try simp only [f3, f4, str]
      go_wp2_with fail
      refine (hr.out _).mono ?_
      rintro e w1 ⟨rfl, hs'⟩
      go_wp2
      refine stq_v rfl hs' ?_
      first | (simp only [mkAct, List.foldl_cons, List.foldl_nil, List.setIfInBounds_toArray, List.set_cons_succ, List.set_cons_zero, upd, reduceIte, Nat.reduceEqDiff, Nat.reduceAdd, f3, f4, str]; done) | (simp [mkAct, upd, f3, f4, str, *]; done)
    · -- operation 6
      obtain ⟨f2, f5, -⟩ := hp
      replace f2 : u 2 = (.bool false) := f2
      replace f5 : u 5 = (.bool false) := f5
      try simp only [f2, f5, str]
      go_wp2
      refine stq_v rfl Same.refl ?_
      first | (simp only [mkAct, List.foldl_cons, List.foldl_nil, List.setIfInBounds_toArray, List.set_cons_succ, List.set_cons_zero, upd, reduceIte, Nat.reduceEqDiff, Nat.reduceAdd, f2, f5, str]; done) | (simp [mkAct, upd, f2, f5, str, *]; done)
    · -- operation 7
      obtain ⟨f6, -, -⟩ := hp
      replace f6 : u 6 = (.bool true) := f6
      try simp only [f6, str]
      go_wp2
      refine stq_v rfl Same.refl ?_
      first | (simp only [mkAct, List.foldl_cons, List.foldl_nil, List.setIfInBounds_toArray, List.set_cons_succ, List.set_cons_zero, upd, reduceIte, Nat.reduceEqDiff, Nat.reduceAdd, f6, str]; done) | (simp [mkAct, upd, f6, str, *]; done)
    · -- operation 8
      obtain ⟨f7, -⟩ := hp
      replace f7 : u 7 = (.bool true) := f7
      try simp only [f7, str]
      go_wp2_with (refine load_row rfl _ _ rfl w.heap.size rfl _ _ _ _ ((hI.block _ hb02).trans hbx2.out) Try.underlying28 rfl hinf.out ?_)
      refine stq_v rfl Same.refl ?_
      first | (simp only [mkAct, List.foldl_cons, List.foldl_nil, List.setIfInBounds_toArray, List.set_cons_succ, List.set_cons_zero, upd, reduceIte, Nat.reduceEqDiff, Nat.reduceAdd, f7, str]; done) | (simp [mkAct, upd, f7, str, *]; done)
    · -- operation 9
      obtain ⟨f7, -⟩ := hp
      replace f7 : u 7 = (.bool true) := f7
      try simp only [f7, str]
      go_wp2_with (refine load_row rfl _ _ rfl w0.heap.size rfl _ _ _ _ ((hI.block _ hb1).trans hbx1.out) Try.underlying28 rfl hinf2.out ?_)
      refine stq_v rfl Same.refl ?_
      first | (simp only [mkAct, List.foldl_cons, List.foldl_nil, List.setIfInBounds_toArray, List.set_cons_succ, List.set_cons_zero, upd, reduceIte, Nat.reduceEqDiff, Nat.reduceAdd, f7, str]; done) | (simp [mkAct, upd, f7, str, *]; done)
    · -- operation 10
      obtain ⟨f8, f9, -, f7, -⟩ := hp
      replace f8 : u 8 = (.agg (bv l).toArray) := f8
      replace f9 : u 9 = (.agg (bv m).toArray) := f9
      replace f7 : u 7 = (.bool true) := f7
      try simp only [f8, f9, f7, str]
      go_wp2_with fail
      refine (hlm.out _).mono ?_
      rintro e w1 ⟨rfl, hs'⟩
      go_wp2
      refine stq_v rfl hs' ?_
      first | (simp only [mkAct, List.foldl_cons, List.foldl_nil, List.setIfInBounds_toArray, List.set_cons_succ, List.set_cons_zero, upd, reduceIte, Nat.reduceEqDiff, Nat.reduceAdd, f8, f9, f7, str]; done) | (simp [mkAct, upd, f8, f9, f7, str, *]; done)
    · -- operation 11
      obtain ⟨f7, -⟩ := hp
      replace f7 : u 7 = (.bool true) := f7
      try simp only [f7, str]
      go_wp2_with (refine load_row rfl _ _ rfl w.heap.size rfl _ _ _ _ ((hI.block _ hb02).trans hbx2.out) Try.underlying28 rfl hinf.out ?_)
      refine stq_v rfl Same.refl ?_
      first | (simp only [mkAct, List.foldl_cons, List.foldl_nil, List.setIfInBounds_toArray, List.set_cons_succ, List.set_cons_zero, upd, reduceIte, Nat.reduceEqDiff, Nat.reduceAdd, f7, str]; done) | (simp [mkAct, upd, f7, str, *]; done)
    · -- operation 12
      obtain ⟨f11, -, f7, -⟩ := hp
      replace f11 : u 11 = (.agg (bv l).toArray) := f11
      replace f7 : u 7 = (.bool true) := f7
      try simp only [f11, f7, str]
      go_wp2_with fail
      refine (htl.out _).mono ?_
      rintro e w1 ⟨rfl, hs'⟩
      go_wp2
      refine stq_v rfl hs' ?_
      first | (simp only [mkAct, List.foldl_cons, List.foldl_nil, List.setIfInBounds_toArray, List.set_cons_succ, List.set_cons_zero, upd, reduceIte, Nat.reduceEqDiff, Nat.reduceAdd, f11, f7, str]; done) | (simp [mkAct, upd, f11, f7, str, *]; done)
    · -- operation 13
      obtain ⟨f7, -⟩ := hp
      replace f7 : u 7 = (.bool true) := f7
      try simp only [f7, str]
      go_wp2_with (refine load_row rfl _ _ rfl w0.heap.size rfl _ _ _ _ ((hI.block _ hb1).trans hbx1.out) Try.underlying28 rfl hinf2.out ?_)
      refine stq_v rfl Same.refl ?_
      first | (simp only [mkAct, List.foldl_cons, List.foldl_nil, List.setIfInBounds_toArray, List.set_cons_succ, List.set_cons_zero, upd, reduceIte, Nat.reduceEqDiff, Nat.reduceAdd, f7, str]; done) | (simp [mkAct, upd, f7, str, *]; done)
    · -- operation 14
      obtain ⟨f13, -, f7, -⟩ := hp
      replace f13 : u 13 = (.agg (bv m).toArray) := f13
      replace f7 : u 7 = (.bool true) := f7
      try simp only [f13, f7, str]
      go_wp2_with fail
      refine (htm.out _).mono ?_
      rintro e w1 ⟨rfl, hs'⟩
      go_wp2
      refine stq_v rfl hs' ?_
      first | (simp only [mkAct, List.foldl_cons, List.foldl_nil, List.setIfInBounds_toArray, List.set_cons_succ, List.set_cons_zero, upd, reduceIte, Nat.reduceEqDiff, Nat.reduceAdd, f13, f7, str]; done) | (simp [mkAct, upd, f13, f7, str, *]; done)
    · -- operation 15
      obtain ⟨f12, f14, f7, -⟩ := hp
      replace f12 : u 12 = (str (Sha.text l)) := f12
      replace f14 : u 14 = (str (Sha.text m)) := f14
      replace f7 : u 7 = (.bool true) := f7
      try simp only [f12, f14, f7, str]
      have hle := hle.out
      go_wp2
      refine stq_v rfl Same.refl ?_
      first | (simp only [mkAct, List.foldl_cons, List.foldl_nil, List.setIfInBounds_toArray, List.set_cons_succ, List.set_cons_zero, upd, reduceIte, Nat.reduceEqDiff, Nat.reduceAdd, f12, f14, f7, str]; done) | (simp [mkAct, upd, f12, f14, f7, str, *]; done)
    · -- operation 16
      obtain ⟨f10, f15, f7, -⟩ := hp
      replace f10 : u 10 = (.bool false) := f10
      replace f15 : u 15 = (.bool false) := f15
      replace f7 : u 7 = (.bool true) := f7
      try simp only [f10, f15, f7, str]
      go_wp2
      refine stq_v rfl Same.refl ?_
      first | (simp only [mkAct, List.foldl_cons, List.foldl_nil, List.setIfInBounds_toArray, List.set_cons_succ, List.set_cons_zero, upd, reduceIte, Nat.reduceEqDiff, Nat.reduceAdd, f10, f15, f7, str]; done) | (simp [mkAct, upd, f10, f15, f7, str, *]; done)
    · -- operation 17
      obtain ⟨f7, f16, -⟩ := hp
      replace f7 : u 7 = (.bool true) := f7
      replace f16 : u 16 = (.bool true) := f16
      try simp only [f7, f16, str]
      go_wp2
      refine stq_v rfl Same.refl ?_
      first | (simp only [mkAct, List.foldl_cons, List.foldl_nil, List.setIfInBounds_toArray, List.set_cons_succ, List.set_cons_zero, upd, reduceIte, Nat.reduceEqDiff, Nat.reduceAdd, f7, f16, str]; done) | (simp [mkAct, upd, f7, f16, str, *]; done)
    · -- operation 18
      obtain ⟨f17, -, -⟩ := hp
      replace f17 : u 17 = (.bool true) := f17
      try simp only [f17, str]
      go_wp2
      refine stq_v rfl Same.refl ?_
      first | (simp only [mkAct, List.foldl_cons, List.foldl_nil, List.setIfInBounds_toArray, List.set_cons_succ, List.set_cons_zero, upd, reduceIte, Nat.reduceEqDiff, Nat.reduceAdd, f17, str]; done) | (simp [mkAct, upd, f17, str, *]; done)
    · -- operation 19
      obtain ⟨f18, -⟩ := hp
      replace f18 : u 18 = (.bool true) := f18
      try simp only [f18, str]
      go_wp2_with (refine load_row rfl _ _ rfl w.heap.size rfl _ _ _ _ ((hI.block _ hb02).trans hbx2.out) Try.underlying28 rfl hinf.out ?_)
      refine stq_v rfl Same.refl ?_
      first | (simp only [mkAct, List.foldl_cons, List.foldl_nil, List.setIfInBounds_toArray, List.set_cons_succ, List.set_cons_zero, upd, reduceIte, Nat.reduceEqDiff, Nat.reduceAdd, f18, str]; done) | (simp [mkAct, upd, f18, str, *]; done)
    · -- operation 20
      obtain ⟨f18, -⟩ := hp
      replace f18 : u 18 = (.bool true) := f18
      try simp only [f18, str]
      go_wp2_with (refine load_row rfl _ _ rfl w0.heap.size rfl _ _ _ _ ((hI.block _ hb1).trans hbx1.out) Try.underlying28 rfl hinf2.out ?_)
      refine stq_v rfl Same.refl ?_
      first | (simp only [mkAct, List.foldl_cons, List.foldl_nil, List.setIfInBounds_toArray, List.set_cons_succ, List.set_cons_zero, upd, reduceIte, Nat.reduceEqDiff, Nat.reduceAdd, f18, str]; done) | (simp [mkAct, upd, f18, str, *]; done)
    · -- operation 21
      obtain ⟨f19, f20, -, f18, -⟩ := hp
      replace f19 : u 19 = (.agg (bv l).toArray) := f19
      replace f20 : u 20 = (.agg (bv m).toArray) := f20
      replace f18 : u 18 = (.bool true) := f18
      try simp only [f19, f20, f18, str]
      go_wp2_with fail
      refine (hlm.out _).mono ?_
      rintro e w1 ⟨rfl, hs'⟩
      go_wp2
      refine stq_v rfl hs' ?_
      first | (simp only [mkAct, List.foldl_cons, List.foldl_nil, List.setIfInBounds_toArray, List.set_cons_succ, List.set_cons_zero, upd, reduceIte, Nat.reduceEqDiff, Nat.reduceAdd, f19, f20, f18, str]; done) | (simp [mkAct, upd, f19, f20, f18, str, *]; done)
    · -- operation 22
      obtain ⟨f21, -, f18, -⟩ := hp
      replace f21 : u 21 = (.bool false) := f21
      replace f18 : u 18 = (.bool true) := f18
      try simp only [f21, f18, str]
      go_wp2
      refine stq_v rfl Same.refl ?_
      first | (simp only [mkAct, List.foldl_cons, List.foldl_nil, List.setIfInBounds_toArray, List.set_cons_succ, List.set_cons_zero, upd, reduceIte, Nat.reduceEqDiff, Nat.reduceAdd, f21, f18, str]; done) | (simp [mkAct, upd, f21, f18, str, *]; done)
    · -- operation 23
      obtain ⟨f22, -⟩ := hp
      replace f22 : u 22 = (.bool false) := f22
      try simp only [f22, str]
      go_wp2_with (refine load_row rfl _ _ rfl w0.heap.size rfl _ _ _ _ ((hI.block _ hb1).trans hbx1.out) Try.underlying28 rfl hinf2.out ?_)
      refine stq_v rfl Same.refl ?_
      first | (simp only [mkAct, List.foldl_cons, List.foldl_nil, List.setIfInBounds_toArray, List.set_cons_succ, List.set_cons_zero, upd, reduceIte, Nat.reduceEqDiff, Nat.reduceAdd, f22, str]; done) | (simp [mkAct, upd, f22, str, *]; done)
    · -- operation 24
      obtain ⟨f22, -⟩ := hp
      replace f22 : u 22 = (.bool false) := f22
      try simp only [f22, str]
      go_wp2_with (refine load_row rfl _ _ rfl w.heap.size rfl _ _ _ _ ((hI.block _ hb02).trans hbx2.out) Try.underlying28 rfl hinf.out ?_)
      refine stq_v rfl Same.refl ?_
      first | (simp only [mkAct, List.foldl_cons, List.foldl_nil, List.setIfInBounds_toArray, List.set_cons_succ, List.set_cons_zero, upd, reduceIte, Nat.reduceEqDiff, Nat.reduceAdd, f22, str]; done) | (simp [mkAct, upd, f22, str, *]; done)
    · -- operation 25
      obtain ⟨f23, f24, -, f22, -⟩ := hp
      replace f23 : u 23 = (.agg (bv m).toArray) := f23
      replace f24 : u 24 = (.agg (bv l).toArray) := f24
      replace f22 : u 22 = (.bool false) := f22
      try simp only [f23, f24, f22, str]
      go_wp2_with fail
      refine (hml.out _).mono ?_
      rintro e w1 ⟨rfl, hs'⟩
      go_wp2
      refine stq_v rfl hs' ?_
      first | (simp only [mkAct, List.foldl_cons, List.foldl_nil, List.setIfInBounds_toArray, List.set_cons_succ, List.set_cons_zero, upd, reduceIte, Nat.reduceEqDiff, Nat.reduceAdd, f23, f24, f22, str]; done) | (simp [mkAct, upd, f23, f24, f22, str, *]; done)
    · -- operation 26
      obtain ⟨f22, f25, f18, -⟩ := hp
      replace f22 : u 22 = (.bool false) := f22
      replace f25 : u 25 = (.bool true) := f25
      replace f18 : u 18 = (.bool true) := f18
      try simp only [f22, f25, f18, str]
      go_wp2
      refine stq_v rfl Same.refl ?_
      first | (simp only [mkAct, List.foldl_cons, List.foldl_nil, List.setIfInBounds_toArray, List.set_cons_succ, List.set_cons_zero, upd, reduceIte, Nat.reduceEqDiff, Nat.reduceAdd, f22, f25, f18, str]; done) | (simp [mkAct, upd, f22, f25, f18, str, *]; done)
    · -- operation 27
      obtain ⟨f18, -⟩ := hp
      replace f18 : u 18 = (.bool true) := f18
      try simp only [f18, str]
      go_wp2_with (refine load_row rfl _ _ rfl w.heap.size rfl _ _ _ _ ((hI.block _ hb02).trans hbx2.out) Try.underlying28 rfl hinf.out ?_)
      refine stq_v rfl Same.refl ?_
      first | (simp only [mkAct, List.foldl_cons, List.foldl_nil, List.setIfInBounds_toArray, List.set_cons_succ, List.set_cons_zero, upd, reduceIte, Nat.reduceEqDiff, Nat.reduceAdd, f18, str]; done) | (simp [mkAct, upd, f18, str, *]; done)
    · -- operation 28
      obtain ⟨f18, -⟩ := hp
      replace f18 : u 18 = (.bool true) := f18
      try simp only [f18, str]
      go_wp2_with (refine load_row rfl _ _ rfl w0.heap.size rfl _ _ _ _ ((hI.block _ hb1).trans hbx1.out) Try.underlying28 rfl hinf2.out ?_)
      refine stq_v rfl Same.refl ?_
      first | (simp only [mkAct, List.foldl_cons, List.foldl_nil, List.setIfInBounds_toArray, List.set_cons_succ, List.set_cons_zero, upd, reduceIte, Nat.reduceEqDiff, Nat.reduceAdd, f18, str]; done) | (simp [mkAct, upd, f18, str, *]; done)
    · -- operation 29
      obtain ⟨f27, f28, f18, -⟩ := hp
      replace f27 : u 27 = (.agg (bv l).toArray) := f27
      replace f28 : u 28 = (.agg (bv m).toArray) := f28
      replace f18 : u 18 = (.bool true) := f18
      try simp only [f27, f28, f18, str]
      have hne := hne.out
      have hgd := dig_guard
      go_wp2
      refine stq_v rfl Same.refl ?_
      first | (simp only [mkAct, List.foldl_cons, List.foldl_nil, List.setIfInBounds_toArray, List.set_cons_succ, List.set_cons_zero, upd, reduceIte, Nat.reduceEqDiff, Nat.reduceAdd, f27, f28, f18, str]; done) | (simp [mkAct, upd, f27, f28, f18, str, *]; done)
    · -- operation 30
      obtain ⟨f26, f29, f18, -⟩ := hp
      replace f26 : u 26 = (.bool true) := f26
      replace f29 : u 29 = (.bool true) := f29
      replace f18 : u 18 = (.bool true) := f18
      try simp only [f26, f29, f18, str]
      go_wp2
      refine stq_v rfl Same.refl ?_
      first | (simp only [mkAct, List.foldl_cons, List.foldl_nil, List.setIfInBounds_toArray, List.set_cons_succ, List.set_cons_zero, upd, reduceIte, Nat.reduceEqDiff, Nat.reduceAdd, f26, f29, f18, str]; done) | (simp [mkAct, upd, f26, f29, f18, str, *]; done)
    · -- operation 31
      obtain ⟨f18, f30, -⟩ := hp
      replace f18 : u 18 = (.bool true) := f18
      replace f30 : u 30 = (.bool true) := f30
      try simp only [f18, f30, str]
      go_wp2
      refine stq_v rfl Same.refl ?_
      first | (simp only [mkAct, List.foldl_cons, List.foldl_nil, List.setIfInBounds_toArray, List.set_cons_succ, List.set_cons_zero, upd, reduceIte, Nat.reduceEqDiff, Nat.reduceAdd, f18, f30, str]; done) | (simp [mkAct, upd, f18, f30, str, *]; done)
    · -- operation 32
      obtain ⟨f31, -, -⟩ := hp
      replace f31 : u 31 = (.bool true) := f31
      try simp only [f31, str]
      go_wp2
      refine stq_v rfl Same.refl ?_
      first | (simp only [mkAct, List.foldl_cons, List.foldl_nil, List.setIfInBounds_toArray, List.set_cons_succ, List.set_cons_zero, upd, reduceIte, Nat.reduceEqDiff, Nat.reduceAdd, f31, str]; done) | (simp [mkAct, upd, f31, str, *]; done)
    · -- operation 33
      obtain ⟨f32, -⟩ := hp
      replace f32 : u 32 = (.bool true) := f32
      try simp only [f32, str]
      go_wp2_with (refine load_row rfl _ _ rfl w.heap.size rfl _ _ _ _ ((hI.block _ hb02).trans hbx2.out) Try.underlying28 rfl hinf.out ?_)
      refine stq_v rfl Same.refl ?_
      first | (simp only [mkAct, List.foldl_cons, List.foldl_nil, List.setIfInBounds_toArray, List.set_cons_succ, List.set_cons_zero, upd, reduceIte, Nat.reduceEqDiff, Nat.reduceAdd, f32, str]; done) | (simp [mkAct, upd, f32, str, *]; done)
    · -- operation 34
      obtain ⟨f32, -⟩ := hp
      replace f32 : u 32 = (.bool true) := f32
      try simp only [f32, str]
      go_wp2_with (refine load_row rfl _ _ rfl w0.heap.size rfl _ _ _ _ ((hI.block _ hb1).trans hbx1.out) Try.underlying28 rfl hinf2.out ?_)
      refine stq_v rfl Same.refl ?_
      first | (simp only [mkAct, List.foldl_cons, List.foldl_nil, List.setIfInBounds_toArray, List.set_cons_succ, List.set_cons_zero, upd, reduceIte, Nat.reduceEqDiff, Nat.reduceAdd, f32, str]; done) | (simp [mkAct, upd, f32, str, *]; done)
    · -- operation 35
      obtain ⟨f33, f34, -, f32, -⟩ := hp
      replace f33 : u 33 = (.agg (bv l).toArray) := f33
      replace f34 : u 34 = (.agg (bv m).toArray) := f34
      replace f32 : u 32 = (.bool true) := f32
      try simp only [f33, f34, f32, str]
      go_wp2_with fail
      refine (hlm.out _).mono ?_
      rintro e w1 ⟨rfl, hs'⟩
      go_wp2
      refine stq_v rfl hs' ?_
      first | (simp only [mkAct, List.foldl_cons, List.foldl_nil, List.setIfInBounds_toArray, List.set_cons_succ, List.set_cons_zero, upd, reduceIte, Nat.reduceEqDiff, Nat.reduceAdd, f33, f34, f32, str]; done) | (simp [mkAct, upd, f33, f34, f32, str, *]; done)
    · -- operation 36
      obtain ⟨f35, -, f32, -⟩ := hp
      replace f35 : u 35 = (.bool false) := f35
      replace f32 : u 32 = (.bool true) := f32
      try simp only [f35, f32, str]
      go_wp2
      refine stq_v rfl Same.refl ?_
      first | (simp only [mkAct, List.foldl_cons, List.foldl_nil, List.setIfInBounds_toArray, List.set_cons_succ, List.set_cons_zero, upd, reduceIte, Nat.reduceEqDiff, Nat.reduceAdd, f35, f32, str]; done) | (simp [mkAct, upd, f35, f32, str, *]; done)
    · -- operation 37
      obtain ⟨f36, -⟩ := hp
      replace f36 : u 36 = (.bool false) := f36
      try simp only [f36, str]
      go_wp2
      refine stq_v rfl Same.refl ?_
      first | (simp only [mkAct, List.foldl_cons, List.foldl_nil, List.setIfInBounds_toArray, List.set_cons_succ, List.set_cons_zero, upd, reduceIte, Nat.reduceEqDiff, Nat.reduceAdd, f36, str]; done) | (simp [mkAct, upd, f36, str, *]; done)
    · -- operation 38
      obtain ⟨f36, -⟩ := hp
      replace f36 : u 36 = (.bool false) := f36
      try simp only [f36, str]
      go_wp2
      refine stq_v rfl Same.refl ?_
      first | (simp only [mkAct, List.foldl_cons, List.foldl_nil, List.setIfInBounds_toArray, List.set_cons_succ, List.set_cons_zero, upd, reduceIte, Nat.reduceEqDiff, Nat.reduceAdd, f36, str]; done) | (simp [mkAct, upd, f36, str, *]; done)
    · -- operation 39
      obtain ⟨f37, f38, -, f36, -⟩ := hp
      replace f37 : u 37 = undef := f37
      replace f38 : u 38 = undef := f38
      replace f36 : u 36 = (.bool false) := f36
      try simp only [f37, f38, f36, str]
      go_wp2
      refine stq_v rfl Same.refl ?_
      first | (simp only [mkAct, List.foldl_cons, List.foldl_nil, List.setIfInBounds_toArray, List.set_cons_succ, List.set_cons_zero, upd, reduceIte, Nat.reduceEqDiff, Nat.reduceAdd, f37, f38, f36, str]; done) | (simp [mkAct, upd, f37, f38, f36, str, *]; done)
    · -- operation 40
      obtain ⟨f36, f39, f32, -⟩ := hp
      replace f36 : u 36 = (.bool false) := f36
      replace f39 : u 39 = undef := f39
      replace f32 : u 32 = (.bool true) := f32
      try simp only [f36, f39, f32, str]
      go_wp2
      refine stq_v rfl Same.refl ?_
      first | (simp only [mkAct, List.foldl_cons, List.foldl_nil, List.setIfInBounds_toArray, List.set_cons_succ, List.set_cons_zero, upd, reduceIte, Nat.reduceEqDiff, Nat.reduceAdd, f36, f39, f32, str]; done) | (simp [mkAct, upd, f36, f39, f32, str, *]; done)
    · -- operation 41
      obtain ⟨f40, f32, -⟩ := hp
      replace f40 : u 40 = (.bool false) := f40
      replace f32 : u 32 = (.bool true) := f32
      try simp only [f40, f32, str]
      go_wp2
      refine stq_v rfl Same.refl ?_
      first | (simp only [mkAct, List.foldl_cons, List.foldl_nil, List.setIfInBounds_toArray, List.set_cons_succ, List.set_cons_zero, upd, reduceIte, Nat.reduceEqDiff, Nat.reduceAdd, f40, f32, str]; done) | (simp [mkAct, upd, f40, f32, str, *]; done)
    · -- operation 42
      obtain ⟨f32, f41, -⟩ := hp
      replace f32 : u 32 = (.bool true) := f32
      replace f41 : u 41 = (.bool true) := f41
      try simp only [f32, f41, str]
      go_wp2
      refine stq_v rfl Same.refl ?_
      first | (simp only [mkAct, List.foldl_cons, List.foldl_nil, List.setIfInBounds_toArray, List.set_cons_succ, List.set_cons_zero, upd, reduceIte, Nat.reduceEqDiff, Nat.reduceAdd, f32, f41, str]; done) | (simp [mkAct, upd, f32, f41, str, *]; done)
    · -- operation 43
      obtain ⟨f42, -, -⟩ := hp
      replace f42 : u 42 = (.bool true) := f42
      try simp only [f42, str]
      go_wp2
      refine stq_v rfl Same.refl ?_
      first | (simp only [mkAct, List.foldl_cons, List.foldl_nil, List.setIfInBounds_toArray, List.set_cons_succ, List.set_cons_zero, upd, reduceIte, Nat.reduceEqDiff, Nat.reduceAdd, f42, str]; done) | (simp [mkAct, upd, f42, str, *]; done)
    · -- operation 44
      obtain ⟨-, f43, -⟩ := hp
      replace f43 : u 43 = (.bool true) := f43
      try simp only [f43, str]
      go_wp2_with fail
      refine (hlives.out _).mono ?_
      rintro e w1 ⟨rfl, hs'⟩
      go_wp2
      refine stq_v rfl hs' ?_
      first | (simp only [mkAct, List.foldl_cons, List.foldl_nil, List.setIfInBounds_toArray, List.set_cons_succ, List.set_cons_zero, upd, reduceIte, Nat.reduceEqDiff, Nat.reduceAdd, f43, str]; done) | (simp [mkAct, upd, f43, str, *]; done)
    · -- operation 45
      obtain ⟨f43, f44, -⟩ := hp
      replace f43 : u 43 = (.bool true) := f43
      replace f44 : u 44 = (.bool true) := f44
      try simp only [f43, f44, str]
      go_wp2
      refine stq_v rfl Same.refl ?_
      first | (simp only [mkAct, List.foldl_cons, List.foldl_nil, List.setIfInBounds_toArray, List.set_cons_succ, List.set_cons_zero, upd, reduceIte, Nat.reduceEqDiff, Nat.reduceAdd, f43, f44, str]; done) | (simp [mkAct, upd, f43, f44, str, *]; done)
  · intro u wx hI hR
    obtain ⟨r0, r1, r2, r3, r4, r5, r6, r7, r8, r9, r10, r11, r12, r13, r14, r15, r16, r17, r18, r19, r20, r21, r22, r23, r24, r25, r26, r27, r28, r29, r30, r31, r32, r33, r34, r35, r36, r37, r38, r39, r40, r41, r42, r43, r44, r45, -⟩ := hR
    replace r0 : u 0 = (.agg (bv l).toArray) := r0
    replace r1 : u 1 = (.agg (bv m).toArray) := r1
    replace r2 : u 2 = (.bool false) := r2
    replace r3 : u 3 = (.agg (bv l).toArray) := r3
    replace r4 : u 4 = (.agg (bv m).toArray) := r4
    replace r5 : u 5 = (.bool false) := r5
    replace r6 : u 6 = (.bool true) := r6
    replace r7 : u 7 = (.bool true) := r7
    replace r8 : u 8 = (.agg (bv l).toArray) := r8
    replace r9 : u 9 = (.agg (bv m).toArray) := r9
    replace r10 : u 10 = (.bool false) := r10
    replace r11 : u 11 = (.agg (bv l).toArray) := r11
    replace r12 : u 12 = (str (Sha.text l)) := r12
    replace r13 : u 13 = (.agg (bv m).toArray) := r13
    replace r14 : u 14 = (str (Sha.text m)) := r14
    replace r15 : u 15 = (.bool false) := r15
    replace r16 : u 16 = (.bool true) := r16
    replace r17 : u 17 = (.bool true) := r17
    replace r18 : u 18 = (.bool true) := r18
    replace r19 : u 19 = (.agg (bv l).toArray) := r19
    replace r20 : u 20 = (.agg (bv m).toArray) := r20
    replace r21 : u 21 = (.bool false) := r21
    replace r22 : u 22 = (.bool false) := r22
    replace r23 : u 23 = (.agg (bv m).toArray) := r23
    replace r24 : u 24 = (.agg (bv l).toArray) := r24
    replace r25 : u 25 = (.bool true) := r25
    replace r26 : u 26 = (.bool true) := r26
    replace r27 : u 27 = (.agg (bv l).toArray) := r27
    replace r28 : u 28 = (.agg (bv m).toArray) := r28
    replace r29 : u 29 = (.bool true) := r29
    replace r30 : u 30 = (.bool true) := r30
    replace r31 : u 31 = (.bool true) := r31
    replace r32 : u 32 = (.bool true) := r32
    replace r33 : u 33 = (.agg (bv l).toArray) := r33
    replace r34 : u 34 = (.agg (bv m).toArray) := r34
    replace r35 : u 35 = (.bool false) := r35
    replace r36 : u 36 = (.bool false) := r36
    replace r37 : u 37 = undef := r37
    replace r38 : u 38 = undef := r38
    replace r39 : u 39 = undef := r39
    replace r40 : u 40 = (.bool false) := r40
    replace r41 : u 41 = (.bool true) := r41
    replace r42 : u 42 = (.bool true) := r42
    replace r43 : u 43 = (.bool true) := r43
    replace r44 : u 44 = (.bool true) := r44
    replace r45 : u 45 = (.bool true) := r45
    simp only [mkAct, List.foldl_cons, List.foldl_nil, List.setIfInBounds_toArray, List.set_cons_succ, List.set_cons_zero]
    try simp only [str, r0, r1, r2, r3, r4, r5, r6, r7, r8, r9, r10, r11, r12, r13, r14, r15, r16, r17, r18, r19, r20, r21, r22, r23, r24, r25, r26, r27, r28, r29, r30, r31, r32, r33, r34, r35, r36, r37, r38, r39, r40, r41, r42, r43, r44, r45]
    go_wp2
    go_ret
    exact ⟨rfl, (hs0.out.trans hs1.out).trans hI⟩
set_option maxRecDepth 100000 in
set_option maxHeartbeats 1600000 in
theorem order_3 (w : World) (l m : List UInt8) (hl : l.length = 32) (hm : m.length = 32) (h1 : Op.bytesLess l m = false) (h2 : Op.bytesLess m l = false) (h3 : (l != m) = false) :
    Calls Try.prog 4 #[.agg (bv l).toArray, .agg (bv m).toArray] w fun e w' => e = .returned (.bool true) ∧ Same w w' := by
  have hlives := Lib.hid lives3
  have hinf := Lib.hid (dig_info hl)
  have hinf2 := Lib.hid (dig_info hm)
  have hlm := less_any l m hl hm
  have hml := less_any m l hm hl
  have hr := rless_any l m hl hm
  rw [h1] at hlm hr
  rw [h2] at hml
  have htl := Lib.hid (dtext_any l hl)
  have htm := Lib.hid (dtext_any m hm)
  have hle := text_less l m
  rw [h1] at hle
  have hne := fun w => dig_neq l m hl hm w
  rw [h3] at hne
  replace hlm := Lib.hid hlm
  replace hml := Lib.hid hml
  replace hr := Lib.hid hr
  replace hne := Lib.hid hne
  replace hle := Lib.hid hle
  clear h1 h2 h3
  go_enter Try.func4, Try.ntmps4
  go_wp2_with (first | (refine box_row rfl _ _ rfl _ rfl hinf.out ?_; intro w0 hbx hs0; have hb0 := blk_lt hbx; replace hbx := Lib.hid hbx; replace hs0 := Lib.hid hs0) | (refine box_row rfl _ _ rfl _ rfl hinf2.out ?_; intro w1 hbx1 hs1; have hb1 := blk_lt hbx1; have hbx2 := (hs1.block _ hb0).trans hbx.out; replace hbx2 := Lib.hid hbx2; replace hbx1 := Lib.hid hbx1; replace hs1 := Lib.hid hs1))
  have hb02 := blk_lt hbx2.out
  refine wp_region_last (by kernel_rfl) [(5, 0), (6, 1), (7, 2), (8, 3), (9, 4), (10, 5), (11, 6), (12, 7), (13, 8), (14, 9), (15, 10), (16, 11), (17, 12), (18, 13), (19, 14), (20, 15), (21, 16), (22, 17), (23, 18), (24, 19), (25, 20), (26, 21), (27, 22), (28, 23), (29, 24), (30, 25), (31, 26), (32, 27), (33, 28), (34, 29), (35, 30), (36, 31), (37, 32), (38, 33), (39, 34), (40, 35), (41, 36), (42, 37), (43, 38), (44, 39), (45, 40), (46, 41), (47, 42), (48, 43), (49, 44), (50, 45), (4, 46)] Same (Same _) [isV (.agg (bv l).toArray), isV (.agg (bv m).toArray), isV (.bool false), isV (.agg (bv l).toArray), isV (.agg (bv m).toArray), isV (.bool false), isV (.bool true), isV (.bool true), isV (.agg (bv l).toArray), isV (.agg (bv m).toArray), isV (.bool false), isV (.agg (bv l).toArray), isV (str (Sha.text l)), isV (.agg (bv m).toArray), isV (str (Sha.text m)), isV (.bool false), isV (.bool true), isV (.bool true), isV (.bool true), isV (.agg (bv l).toArray), isV (.agg (bv m).toArray), isV (.bool false), isV (.bool false), isV (.agg (bv m).toArray), isV (.agg (bv l).toArray), isV (.bool false), isV (.bool false), isV (.agg (bv l).toArray), isV (.agg (bv m).toArray), isV (.bool false), isV (.bool true), isV (.bool true), isV (.bool true), isV (.agg (bv l).toArray), isV (.agg (bv m).toArray), isV (.bool false), isV (.bool false), isV undef, isV undef, isV undef, isV (.bool false), isV (.bool true), isV (.bool true), isV (.bool true), isV (.bool true), isV (.bool true)] Same.refl.drew (fun _ _ h k => h.trans k) (by simp [isV_stable, isB_stable, isAny_stable]) (by decide) (l := [_, _, _, _, _, _, _, _, _, _, _, _, _, _, _, _, _, _, _, _, _, _, _, _, _, _, _, _, _, _, _, _, _, _, _, _, _, _, _, _, _, _, _, _, _, _]) rfl (by decide) (by decide) ?_ ?_
  · refine ⟨?_, ?_, ?_, ?_, ?_, ?_, ?_, ?_, ?_, ?_, ?_, ?_, ?_, ?_, ?_, ?_, ?_, ?_, ?_, ?_, ?_, ?_, ?_, ?_, ?_, ?_, ?_, ?_, ?_, ?_, ?_, ?_, ?_, ?_, ?_, ?_, ?_, ?_, ?_, ?_, ?_, ?_, ?_, ?_, ?_, ?_, trivial⟩
    all_goals (intro u wx hI hp; simp only [mkAct, List.foldl_cons, List.foldl_nil, List.setIfInBounds_toArray, List.set_cons_succ, List.set_cons_zero])
    · -- operation 0
      go_wp2_with (refine load_row rfl _ _ rfl w.heap.size rfl _ _ _ _ ((hI.block _ hb02).trans hbx2.out) Try.underlying28 rfl hinf.out ?_)
      refine stq_v rfl Same.refl ?_
      first | (simp only [mkAct, List.foldl_cons, List.foldl_nil, List.setIfInBounds_toArray, List.set_cons_succ, List.set_cons_zero, upd, reduceIte, Nat.reduceEqDiff, Nat.reduceAdd, str]; done) | (simp [mkAct, upd, str, *]; done)
    · -- operation 1
      go_wp2_with (refine load_row rfl _ _ rfl w0.heap.size rfl _ _ _ _ ((hI.block _ hb1).trans hbx1.out) Try.underlying28 rfl hinf2.out ?_)
      refine stq_v rfl Same.refl ?_
      first | (simp only [mkAct, List.foldl_cons, List.foldl_nil, List.setIfInBounds_toArray, List.set_cons_succ, List.set_cons_zero, upd, reduceIte, Nat.reduceEqDiff, Nat.reduceAdd, str]; done) | (simp [mkAct, upd, str, *]; done)
    · -- operation 2
      obtain ⟨f0, f1, -⟩ := hp
      replace f0 : u 0 = (.agg (bv l).toArray) := f0
      replace f1 : u 1 = (.agg (bv m).toArray) := f1
      try simp only [f0, f1, str]
      go_wp2_with fail
      refine (hlm.out _).mono ?_
      rintro e w1 ⟨rfl, hs'⟩
      go_wp2
      refine stq_v rfl hs' ?_
      first | (simp only [mkAct, List.foldl_cons, List.foldl_nil, List.setIfInBounds_toArray, List.set_cons_succ, List.set_cons_zero, upd, reduceIte, Nat.reduceEqDiff, Nat.reduceAdd, f0, f1, str]; done) | (simp [mkAct, upd, f0, f1, str, *]; done)
    · -- operation 3
      go_wp2_with (refine load_row rfl _ _ rfl w.heap.size rfl _ _ _ _ ((hI.block _ hb02).trans hbx2.out) Try.underlying28 rfl hinf.out ?_)
      refine stq_v rfl Same.refl ?_
      first | (simp only [mkAct, List.foldl_cons, List.foldl_nil, List.setIfInBounds_toArray, List.set_cons_succ, List.set_cons_zero, upd, reduceIte, Nat.reduceEqDiff, Nat.reduceAdd, str]; done) | (simp [mkAct, upd, str, *]; done)
    · -- operation 4
      go_wp2_with (refine load_row rfl _ _ rfl w0.heap.size rfl _ _ _ _ ((hI.block _ hb1).trans hbx1.out) Try.underlying28 rfl hinf2.out ?_)
      refine stq_v rfl Same.refl ?_
      first | (simp only [mkAct, List.foldl_cons, List.foldl_nil, List.setIfInBounds_toArray, List.set_cons_succ, List.set_cons_zero, upd, reduceIte, Nat.reduceEqDiff, Nat.reduceAdd, str]; done) | (simp [mkAct, upd, str, *]; done)
    · -- operation 5
      obtain ⟨f3, f4, -, -⟩ := hp
      replace f3 : u 3 = (.agg (bv l).toArray) := f3
      replace f4 : u 4 = (.agg (bv m).toArray) := f4
      try simp only [f3, f4, str]
      go_wp2_with fail
      refine (hr.out _).mono ?_
      rintro e w1 ⟨rfl, hs'⟩
      go_wp2
      refine stq_v rfl hs' ?_
      first | (simp only [mkAct, List.foldl_cons, List.foldl_nil, List.setIfInBounds_toArray, List.set_cons_succ, List.set_cons_zero, upd, reduceIte, Nat.reduceEqDiff, Nat.reduceAdd, f3, f4, str]; done) | (simp [mkAct, upd, f3, f4, str, *]; done)
    · -- operation 6
      obtain ⟨f2, f5, -⟩ := hp
      replace f2 : u 2 = (.bool false) := f2
      replace f5 : u 5 = (.bool false) := f5
      try simp only [f2, f5, str]
      go_wp2
      refine stq_v rfl Same.refl ?_
      first | (simp only [mkAct, List.foldl_cons, List.foldl_nil, List.setIfInBounds_toArray, List.set_cons_succ, List.set_cons_zero, upd, reduceIte, Nat.reduceEqDiff, Nat.reduceAdd, f2, f5, str]; done) | (simp [mkAct, upd, f2, f5, str, *]; done)
    · -- operation 7
      obtain ⟨f6, -, -⟩ := hp
      replace f6 : u 6 = (.bool true) := f6
      try simp only [f6, str]
      go_wp2
      refine stq_v rfl Same.refl ?_
      first | (simp only [mkAct, List.foldl_cons, List.foldl_nil, List.setIfInBounds_toArray, List.set_cons_succ, List.set_cons_zero, upd, reduceIte, Nat.reduceEqDiff, Nat.reduceAdd, f6, str]; done) | (simp [mkAct, upd, f6, str, *]; done)
    · -- operation 8
      obtain ⟨f7, -⟩ := hp
      replace f7 : u 7 = (.bool true) := f7
      try simp only [f7, str]
      go_wp2_with (refine load_row rfl _ _ rfl w.heap.size rfl _ _ _ _ ((hI.block _ hb02).trans hbx2.out) Try.underlying28 rfl hinf.out ?_)
      refine stq_v rfl Same.refl ?_
      first | (simp only [mkAct, List.foldl_cons, List.foldl_nil, List.setIfInBounds_toArray, List.set_cons_succ, List.set_cons_zero, upd, reduceIte, Nat.reduceEqDiff, Nat.reduceAdd, f7, str]; done) | (simp [mkAct, upd, f7, str, *]; done)
    · -- operation 9
      obtain ⟨f7, -⟩ := hp
      replace f7 : u 7 = (.bool true) := f7
      try simp only [f7, str]
      go_wp2_with (refine load_row rfl _ _ rfl w0.heap.size rfl _ _ _ _ ((hI.block _ hb1).trans hbx1.out) Try.underlying28 rfl hinf2.out ?_)
      refine stq_v rfl Same.refl ?_
      first | (simp only [mkAct, List.foldl_cons, List.foldl_nil, List.setIfInBounds_toArray, List.set_cons_succ, List.set_cons_zero, upd, reduceIte, Nat.reduceEqDiff, Nat.reduceAdd, f7, str]; done) | (simp [mkAct, upd, f7, str, *]; done)
    · -- operation 10
      obtain ⟨f8, f9, -, f7, -⟩ := hp
      replace f8 : u 8 = (.agg (bv l).toArray) := f8
      replace f9 : u 9 = (.agg (bv m).toArray) := f9
      replace f7 : u 7 = (.bool true) := f7
      try simp only [f8, f9, f7, str]
      go_wp2_with fail
      refine (hlm.out _).mono ?_
      rintro e w1 ⟨rfl, hs'⟩
      go_wp2
      refine stq_v rfl hs' ?_
      first | (simp only [mkAct, List.foldl_cons, List.foldl_nil, List.setIfInBounds_toArray, List.set_cons_succ, List.set_cons_zero, upd, reduceIte, Nat.reduceEqDiff, Nat.reduceAdd, f8, f9, f7, str]; done) | (simp [mkAct, upd, f8, f9, f7, str, *]; done)
    · -- operation 11
      obtain ⟨f7, -⟩ := hp
      replace f7 : u 7 = (.bool true) := f7
      try simp only [f7, str]
      go_wp2_with (refine load_row rfl _ _ rfl w.heap.size rfl _ _ _ _ ((hI.block _ hb02).trans hbx2.out) Try.underlying28 rfl hinf.out ?_)
      refine stq_v rfl Same.refl ?_
      first | (simp only [mkAct, List.foldl_cons, List.foldl_nil, List.setIfInBounds_toArray, List.set_cons_succ, List.set_cons_zero, upd, reduceIte, Nat.reduceEqDiff, Nat.reduceAdd, f7, str]; done) | (simp [mkAct, upd, f7, str, *]; done)
    · -- operation 12
      obtain ⟨f11, -, f7, -⟩ := hp
      replace f11 : u 11 = (.agg (bv l).toArray) := f11
      replace f7 : u 7 = (.bool true) := f7
      try simp only [f11, f7, str]
      go_wp2_with fail
      refine (htl.out _).mono ?_
      rintro e w1 ⟨rfl, hs'⟩
      go_wp2
      refine stq_v rfl hs' ?_
      first | (simp only [mkAct, List.foldl_cons, List.foldl_nil, List.setIfInBounds_toArray, List.set_cons_succ, List.set_cons_zero, upd, reduceIte, Nat.reduceEqDiff, Nat.reduceAdd, f11, f7, str]; done) | (simp [mkAct, upd, f11, f7, str, *]; done)
    · -- operation 13
      obtain ⟨f7, -⟩ := hp
      replace f7 : u 7 = (.bool true) := f7
      try simp only [f7, str]
      go_wp2_with (refine load_row rfl _ _ rfl w0.heap.size rfl _ _ _ _ ((hI.block _ hb1).trans hbx1.out) Try.underlying28 rfl hinf2.out ?_)
      refine stq_v rfl Same.refl ?_
      first | (simp only [mkAct, List.foldl_cons, List.foldl_nil, List.setIfInBounds_toArray, List.set_cons_succ, List.set_cons_zero, upd, reduceIte, Nat.reduceEqDiff, Nat.reduceAdd, f7, str]; done) | (simp [mkAct, upd, f7, str, *]; done)
    · -- operation 14
      obtain ⟨f13, -, f7, -⟩ := hp
      replace f13 : u 13 = (.agg (bv m).toArray) := f13
      replace f7 : u 7 = (.bool true) := f7
      try simp only [f13, f7, str]
      go_wp2_with fail
      refine (htm.out _).mono ?_
      rintro e w1 ⟨rfl, hs'⟩
      go_wp2
      refine stq_v rfl hs' ?_
      first | (simp only [mkAct, List.foldl_cons, List.foldl_nil, List.setIfInBounds_toArray, List.set_cons_succ, List.set_cons_zero, upd, reduceIte, Nat.reduceEqDiff, Nat.reduceAdd, f13, f7, str]; done) | (simp [mkAct, upd, f13, f7, str, *]; done)
    · -- operation 15
      obtain ⟨f12, f14, f7, -⟩ := hp
      replace f12 : u 12 = (str (Sha.text l)) := f12
      replace f14 : u 14 = (str (Sha.text m)) := f14
      replace f7 : u 7 = (.bool true) := f7
      try simp only [f12, f14, f7, str]
      have hle := hle.out
      go_wp2
      refine stq_v rfl Same.refl ?_
      first | (simp only [mkAct, List.foldl_cons, List.foldl_nil, List.setIfInBounds_toArray, List.set_cons_succ, List.set_cons_zero, upd, reduceIte, Nat.reduceEqDiff, Nat.reduceAdd, f12, f14, f7, str]; done) | (simp [mkAct, upd, f12, f14, f7, str, *]; done)
    · -- operation 16
      obtain ⟨f10, f15, f7, -⟩ := hp
      replace f10 : u 10 = (.bool false) := f10
      replace f15 : u 15 = (.bool false) := f15
      replace f7 : u 7 = (.bool true) := f7
      try simp only [f10, f15, f7, str]
      go_wp2
      refine stq_v rfl Same.refl ?_
      first | (simp only [mkAct, List.foldl_cons, List.foldl_nil, List.setIfInBounds_toArray, List.set_cons_succ, List.set_cons_zero, upd, reduceIte, Nat.reduceEqDiff, Nat.reduceAdd, f10, f15, f7, str]; done) | (simp [mkAct, upd, f10, f15, f7, str, *]; done)
    · -- operation 17
      obtain ⟨f7, f16, -⟩ := hp
      replace f7 : u 7 = (.bool true) := f7
      replace f16 : u 16 = (.bool true) := f16
      try simp only [f7, f16, str]
      go_wp2
      refine stq_v rfl Same.refl ?_
      first | (simp only [mkAct, List.foldl_cons, List.foldl_nil, List.setIfInBounds_toArray, List.set_cons_succ, List.set_cons_zero, upd, reduceIte, Nat.reduceEqDiff, Nat.reduceAdd, f7, f16, str]; done) | (simp [mkAct, upd, f7, f16, str, *]; done)
    · -- operation 18
      obtain ⟨f17, -, -⟩ := hp
      replace f17 : u 17 = (.bool true) := f17
      try simp only [f17, str]
      go_wp2
      refine stq_v rfl Same.refl ?_
      first | (simp only [mkAct, List.foldl_cons, List.foldl_nil, List.setIfInBounds_toArray, List.set_cons_succ, List.set_cons_zero, upd, reduceIte, Nat.reduceEqDiff, Nat.reduceAdd, f17, str]; done) | (simp [mkAct, upd, f17, str, *]; done)
    · -- operation 19
      obtain ⟨f18, -⟩ := hp
      replace f18 : u 18 = (.bool true) := f18
      try simp only [f18, str]
      go_wp2_with (refine load_row rfl _ _ rfl w.heap.size rfl _ _ _ _ ((hI.block _ hb02).trans hbx2.out) Try.underlying28 rfl hinf.out ?_)
      refine stq_v rfl Same.refl ?_
      first | (simp only [mkAct, List.foldl_cons, List.foldl_nil, List.setIfInBounds_toArray, List.set_cons_succ, List.set_cons_zero, upd, reduceIte, Nat.reduceEqDiff, Nat.reduceAdd, f18, str]; done) | (simp [mkAct, upd, f18, str, *]; done)
    · -- operation 20
      obtain ⟨f18, -⟩ := hp
      replace f18 : u 18 = (.bool true) := f18
      try simp only [f18, str]
      go_wp2_with (refine load_row rfl _ _ rfl w0.heap.size rfl _ _ _ _ ((hI.block _ hb1).trans hbx1.out) Try.underlying28 rfl hinf2.out ?_)
      refine stq_v rfl Same.refl ?_
      first | (simp only [mkAct, List.foldl_cons, List.foldl_nil, List.setIfInBounds_toArray, List.set_cons_succ, List.set_cons_zero, upd, reduceIte, Nat.reduceEqDiff, Nat.reduceAdd, f18, str]; done) | (simp [mkAct, upd, f18, str, *]; done)
    · -- operation 21
      obtain ⟨f19, f20, -, f18, -⟩ := hp
      replace f19 : u 19 = (.agg (bv l).toArray) := f19
      replace f20 : u 20 = (.agg (bv m).toArray) := f20
      replace f18 : u 18 = (.bool true) := f18
      try simp only [f19, f20, f18, str]
      go_wp2_with fail
      refine (hlm.out _).mono ?_
      rintro e w1 ⟨rfl, hs'⟩
      go_wp2
      refine stq_v rfl hs' ?_
      first | (simp only [mkAct, List.foldl_cons, List.foldl_nil, List.setIfInBounds_toArray, List.set_cons_succ, List.set_cons_zero, upd, reduceIte, Nat.reduceEqDiff, Nat.reduceAdd, f19, f20, f18, str]; done) | (simp [mkAct, upd, f19, f20, f18, str, *]; done)
    · -- operation 22
      obtain ⟨f21, -, f18, -⟩ := hp
      replace f21 : u 21 = (.bool false) := f21
      replace f18 : u 18 = (.bool true) := f18
      try simp only [f21, f18, str]
      go_wp2
      refine stq_v rfl Same.refl ?_
      first | (simp only [mkAct, List.foldl_cons, List.foldl_nil, List.setIfInBounds_toArray, List.set_cons_succ, List.set_cons_zero, upd, reduceIte, Nat.reduceEqDiff, Nat.reduceAdd, f21, f18, str]; done) | (simp [mkAct, upd, f21, f18, str, *]; done)
    · -- operation 23
      obtain ⟨f22, -⟩ := hp
      replace f22 : u 22 = (.bool false) := f22
      try simp only [f22, str]
      go_wp2_with (refine load_row rfl _ _ rfl w0.heap.size rfl _ _ _ _ ((hI.block _ hb1).trans hbx1.out) Try.underlying28 rfl hinf2.out ?_)
      refine stq_v rfl Same.refl ?_
      first | (simp only [mkAct, List.foldl_cons, List.foldl_nil, List.setIfInBounds_toArray, List.set_cons_succ, List.set_cons_zero, upd, reduceIte, Nat.reduceEqDiff, Nat.reduceAdd, f22, str]; done) | (simp [mkAct, upd, f22, str, *]; done)
    · -- operation 24
      obtain ⟨f22, -⟩ := hp
      replace f22 : u 22 = (.bool false) := f22
      try simp only [f22, str]
      go_wp2_with (refine load_row rfl _ _ rfl w.heap.size rfl _ _ _ _ ((hI.block _ hb02).trans hbx2.out) Try.underlying28 rfl hinf.out ?_)
      refine stq_v rfl Same.refl ?_
      first | (simp only [mkAct, List.foldl_cons, List.foldl_nil, List.setIfInBounds_toArray, List.set_cons_succ, List.set_cons_zero, upd, reduceIte, Nat.reduceEqDiff, Nat.reduceAdd, f22, str]; done) | (simp [mkAct, upd, f22, str, *]; done)
    · -- operation 25
      obtain ⟨f23, f24, -, f22, -⟩ := hp
      replace f23 : u 23 = (.agg (bv m).toArray) := f23
      replace f24 : u 24 = (.agg (bv l).toArray) := f24
      replace f22 : u 22 = (.bool false) := f22
      try simp only [f23, f24, f22, str]
      go_wp2_with fail
      refine (hml.out _).mono ?_
      rintro e w1 ⟨rfl, hs'⟩
      go_wp2
      refine stq_v rfl hs' ?_
      first | (simp only [mkAct, List.foldl_cons, List.foldl_nil, List.setIfInBounds_toArray, List.set_cons_succ, List.set_cons_zero, upd, reduceIte, Nat.reduceEqDiff, Nat.reduceAdd, f23, f24, f22, str]; done) | (simp [mkAct, upd, f23, f24, f22, str, *]; done)
    · -- operation 26
      obtain ⟨f22, f25, f18, -⟩ := hp
      replace f22 : u 22 = (.bool false) := f22
      replace f25 : u 25 = (.bool false) := f25
      replace f18 : u 18 = (.bool true) := f18
      try simp only [f22, f25, f18, str]
      go_wp2
      refine stq_v rfl Same.refl ?_
      first | (simp only [mkAct, List.foldl_cons, List.foldl_nil, List.setIfInBounds_toArray, List.set_cons_succ, List.set_cons_zero, upd, reduceIte, Nat.reduceEqDiff, Nat.reduceAdd, f22, f25, f18, str]; done) | (simp [mkAct, upd, f22, f25, f18, str, *]; done)
    · -- operation 27
      obtain ⟨f18, -⟩ := hp
      replace f18 : u 18 = (.bool true) := f18
      try simp only [f18, str]
      go_wp2_with (refine load_row rfl _ _ rfl w.heap.size rfl _ _ _ _ ((hI.block _ hb02).trans hbx2.out) Try.underlying28 rfl hinf.out ?_)
      refine stq_v rfl Same.refl ?_
      first | (simp only [mkAct, List.foldl_cons, List.foldl_nil, List.setIfInBounds_toArray, List.set_cons_succ, List.set_cons_zero, upd, reduceIte, Nat.reduceEqDiff, Nat.reduceAdd, f18, str]; done) | (simp [mkAct, upd, f18, str, *]; done)
    · -- operation 28
      obtain ⟨f18, -⟩ := hp
      replace f18 : u 18 = (.bool true) := f18
      try simp only [f18, str]
      go_wp2_with (refine load_row rfl _ _ rfl w0.heap.size rfl _ _ _ _ ((hI.block _ hb1).trans hbx1.out) Try.underlying28 rfl hinf2.out ?_)
      refine stq_v rfl Same.refl ?_
      first | (simp only [mkAct, List.foldl_cons, List.foldl_nil, List.setIfInBounds_toArray, List.set_cons_succ, List.set_cons_zero, upd, reduceIte, Nat.reduceEqDiff, Nat.reduceAdd, f18, str]; done) | (simp [mkAct, upd, f18, str, *]; done)
    · -- operation 29
      obtain ⟨f27, f28, f18, -⟩ := hp
      replace f27 : u 27 = (.agg (bv l).toArray) := f27
      replace f28 : u 28 = (.agg (bv m).toArray) := f28
      replace f18 : u 18 = (.bool true) := f18
      try simp only [f27, f28, f18, str]
      have hne := hne.out
      have hgd := dig_guard
      go_wp2
      refine stq_v rfl Same.refl ?_
      first | (simp only [mkAct, List.foldl_cons, List.foldl_nil, List.setIfInBounds_toArray, List.set_cons_succ, List.set_cons_zero, upd, reduceIte, Nat.reduceEqDiff, Nat.reduceAdd, f27, f28, f18, str]; done) | (simp [mkAct, upd, f27, f28, f18, str, *]; done)
    · -- operation 30
      obtain ⟨f26, f29, f18, -⟩ := hp
      replace f26 : u 26 = (.bool false) := f26
      replace f29 : u 29 = (.bool false) := f29
      replace f18 : u 18 = (.bool true) := f18
      try simp only [f26, f29, f18, str]
      go_wp2
      refine stq_v rfl Same.refl ?_
      first | (simp only [mkAct, List.foldl_cons, List.foldl_nil, List.setIfInBounds_toArray, List.set_cons_succ, List.set_cons_zero, upd, reduceIte, Nat.reduceEqDiff, Nat.reduceAdd, f26, f29, f18, str]; done) | (simp [mkAct, upd, f26, f29, f18, str, *]; done)
    · -- operation 31
      obtain ⟨f18, f30, -⟩ := hp
      replace f18 : u 18 = (.bool true) := f18
      replace f30 : u 30 = (.bool true) := f30
      try simp only [f18, f30, str]
      go_wp2
      refine stq_v rfl Same.refl ?_
      first | (simp only [mkAct, List.foldl_cons, List.foldl_nil, List.setIfInBounds_toArray, List.set_cons_succ, List.set_cons_zero, upd, reduceIte, Nat.reduceEqDiff, Nat.reduceAdd, f18, f30, str]; done) | (simp [mkAct, upd, f18, f30, str, *]; done)
    · -- operation 32
      obtain ⟨f31, -, -⟩ := hp
      replace f31 : u 31 = (.bool true) := f31
      try simp only [f31, str]
      go_wp2
      refine stq_v rfl Same.refl ?_
      first | (simp only [mkAct, List.foldl_cons, List.foldl_nil, List.setIfInBounds_toArray, List.set_cons_succ, List.set_cons_zero, upd, reduceIte, Nat.reduceEqDiff, Nat.reduceAdd, f31, str]; done) | (simp [mkAct, upd, f31, str, *]; done)
    · -- operation 33
      obtain ⟨f32, -⟩ := hp
      replace f32 : u 32 = (.bool true) := f32
      try simp only [f32, str]
      go_wp2_with (refine load_row rfl _ _ rfl w.heap.size rfl _ _ _ _ ((hI.block _ hb02).trans hbx2.out) Try.underlying28 rfl hinf.out ?_)
      refine stq_v rfl Same.refl ?_
      first | (simp only [mkAct, List.foldl_cons, List.foldl_nil, List.setIfInBounds_toArray, List.set_cons_succ, List.set_cons_zero, upd, reduceIte, Nat.reduceEqDiff, Nat.reduceAdd, f32, str]; done) | (simp [mkAct, upd, f32, str, *]; done)
    · -- operation 34
      obtain ⟨f32, -⟩ := hp
      replace f32 : u 32 = (.bool true) := f32
      try simp only [f32, str]
      go_wp2_with (refine load_row rfl _ _ rfl w0.heap.size rfl _ _ _ _ ((hI.block _ hb1).trans hbx1.out) Try.underlying28 rfl hinf2.out ?_)
      refine stq_v rfl Same.refl ?_
      first | (simp only [mkAct, List.foldl_cons, List.foldl_nil, List.setIfInBounds_toArray, List.set_cons_succ, List.set_cons_zero, upd, reduceIte, Nat.reduceEqDiff, Nat.reduceAdd, f32, str]; done) | (simp [mkAct, upd, f32, str, *]; done)
    · -- operation 35
      obtain ⟨f33, f34, -, f32, -⟩ := hp
      replace f33 : u 33 = (.agg (bv l).toArray) := f33
      replace f34 : u 34 = (.agg (bv m).toArray) := f34
      replace f32 : u 32 = (.bool true) := f32
      try simp only [f33, f34, f32, str]
      go_wp2_with fail
      refine (hlm.out _).mono ?_
      rintro e w1 ⟨rfl, hs'⟩
      go_wp2
      refine stq_v rfl hs' ?_
      first | (simp only [mkAct, List.foldl_cons, List.foldl_nil, List.setIfInBounds_toArray, List.set_cons_succ, List.set_cons_zero, upd, reduceIte, Nat.reduceEqDiff, Nat.reduceAdd, f33, f34, f32, str]; done) | (simp [mkAct, upd, f33, f34, f32, str, *]; done)
    · -- operation 36
      obtain ⟨f35, -, f32, -⟩ := hp
      replace f35 : u 35 = (.bool false) := f35
      replace f32 : u 32 = (.bool true) := f32
      try simp only [f35, f32, str]
      go_wp2
      refine stq_v rfl Same.refl ?_
      first | (simp only [mkAct, List.foldl_cons, List.foldl_nil, List.setIfInBounds_toArray, List.set_cons_succ, List.set_cons_zero, upd, reduceIte, Nat.reduceEqDiff, Nat.reduceAdd, f35, f32, str]; done) | (simp [mkAct, upd, f35, f32, str, *]; done)
    · -- operation 37
      obtain ⟨f36, -⟩ := hp
      replace f36 : u 36 = (.bool false) := f36
      try simp only [f36, str]
      go_wp2
      refine stq_v rfl Same.refl ?_
      first | (simp only [mkAct, List.foldl_cons, List.foldl_nil, List.setIfInBounds_toArray, List.set_cons_succ, List.set_cons_zero, upd, reduceIte, Nat.reduceEqDiff, Nat.reduceAdd, f36, str]; done) | (simp [mkAct, upd, f36, str, *]; done)
    · -- operation 38
      obtain ⟨f36, -⟩ := hp
      replace f36 : u 36 = (.bool false) := f36
      try simp only [f36, str]
      go_wp2
      refine stq_v rfl Same.refl ?_
      first | (simp only [mkAct, List.foldl_cons, List.foldl_nil, List.setIfInBounds_toArray, List.set_cons_succ, List.set_cons_zero, upd, reduceIte, Nat.reduceEqDiff, Nat.reduceAdd, f36, str]; done) | (simp [mkAct, upd, f36, str, *]; done)
    · -- operation 39
      obtain ⟨f37, f38, -, f36, -⟩ := hp
      replace f37 : u 37 = undef := f37
      replace f38 : u 38 = undef := f38
      replace f36 : u 36 = (.bool false) := f36
      try simp only [f37, f38, f36, str]
      go_wp2
      refine stq_v rfl Same.refl ?_
      first | (simp only [mkAct, List.foldl_cons, List.foldl_nil, List.setIfInBounds_toArray, List.set_cons_succ, List.set_cons_zero, upd, reduceIte, Nat.reduceEqDiff, Nat.reduceAdd, f37, f38, f36, str]; done) | (simp [mkAct, upd, f37, f38, f36, str, *]; done)
    · -- operation 40
      obtain ⟨f36, f39, f32, -⟩ := hp
      replace f36 : u 36 = (.bool false) := f36
      replace f39 : u 39 = undef := f39
      replace f32 : u 32 = (.bool true) := f32
      try simp only [f36, f39, f32, str]
      go_wp2
      refine stq_v rfl Same.refl ?_
      first | (simp only [mkAct, List.foldl_cons, List.foldl_nil, List.setIfInBounds_toArray, List.set_cons_succ, List.set_cons_zero, upd, reduceIte, Nat.reduceEqDiff, Nat.reduceAdd, f36, f39, f32, str]; done) | (simp [mkAct, upd, f36, f39, f32, str, *]; done)
    · -- operation 41
      obtain ⟨f40, f32, -⟩ := hp
      replace f40 : u 40 = (.bool false) := f40
      replace f32 : u 32 = (.bool true) := f32
      try simp only [f40, f32, str]
      go_wp2
      refine stq_v rfl Same.refl ?_
      first | (simp only [mkAct, List.foldl_cons, List.foldl_nil, List.setIfInBounds_toArray, List.set_cons_succ, List.set_cons_zero, upd, reduceIte, Nat.reduceEqDiff, Nat.reduceAdd, f40, f32, str]; done) | (simp [mkAct, upd, f40, f32, str, *]; done)
    · -- operation 42
      obtain ⟨f32, f41, -⟩ := hp
      replace f32 : u 32 = (.bool true) := f32
      replace f41 : u 41 = (.bool true) := f41
      try simp only [f32, f41, str]
      go_wp2
      refine stq_v rfl Same.refl ?_
      first | (simp only [mkAct, List.foldl_cons, List.foldl_nil, List.setIfInBounds_toArray, List.set_cons_succ, List.set_cons_zero, upd, reduceIte, Nat.reduceEqDiff, Nat.reduceAdd, f32, f41, str]; done) | (simp [mkAct, upd, f32, f41, str, *]; done)
    · -- operation 43
      obtain ⟨f42, -, -⟩ := hp
      replace f42 : u 42 = (.bool true) := f42
      try simp only [f42, str]
      go_wp2
      refine stq_v rfl Same.refl ?_
      first | (simp only [mkAct, List.foldl_cons, List.foldl_nil, List.setIfInBounds_toArray, List.set_cons_succ, List.set_cons_zero, upd, reduceIte, Nat.reduceEqDiff, Nat.reduceAdd, f42, str]; done) | (simp [mkAct, upd, f42, str, *]; done)
    · -- operation 44
      obtain ⟨-, f43, -⟩ := hp
      replace f43 : u 43 = (.bool true) := f43
      try simp only [f43, str]
      go_wp2_with fail
      refine (hlives.out _).mono ?_
      rintro e w1 ⟨rfl, hs'⟩
      go_wp2
      refine stq_v rfl hs' ?_
      first | (simp only [mkAct, List.foldl_cons, List.foldl_nil, List.setIfInBounds_toArray, List.set_cons_succ, List.set_cons_zero, upd, reduceIte, Nat.reduceEqDiff, Nat.reduceAdd, f43, str]; done) | (simp [mkAct, upd, f43, str, *]; done)
    · -- operation 45
      obtain ⟨f43, f44, -⟩ := hp
      replace f43 : u 43 = (.bool true) := f43
      replace f44 : u 44 = (.bool true) := f44
      try simp only [f43, f44, str]
      go_wp2
      refine stq_v rfl Same.refl ?_
      first | (simp only [mkAct, List.foldl_cons, List.foldl_nil, List.setIfInBounds_toArray, List.set_cons_succ, List.set_cons_zero, upd, reduceIte, Nat.reduceEqDiff, Nat.reduceAdd, f43, f44, str]; done) | (simp [mkAct, upd, f43, f44, str, *]; done)
  · intro u wx hI hR
    obtain ⟨r0, r1, r2, r3, r4, r5, r6, r7, r8, r9, r10, r11, r12, r13, r14, r15, r16, r17, r18, r19, r20, r21, r22, r23, r24, r25, r26, r27, r28, r29, r30, r31, r32, r33, r34, r35, r36, r37, r38, r39, r40, r41, r42, r43, r44, r45, -⟩ := hR
    replace r0 : u 0 = (.agg (bv l).toArray) := r0
    replace r1 : u 1 = (.agg (bv m).toArray) := r1
    replace r2 : u 2 = (.bool false) := r2
    replace r3 : u 3 = (.agg (bv l).toArray) := r3
    replace r4 : u 4 = (.agg (bv m).toArray) := r4
    replace r5 : u 5 = (.bool false) := r5
    replace r6 : u 6 = (.bool true) := r6
    replace r7 : u 7 = (.bool true) := r7
    replace r8 : u 8 = (.agg (bv l).toArray) := r8
    replace r9 : u 9 = (.agg (bv m).toArray) := r9
    replace r10 : u 10 = (.bool false) := r10
    replace r11 : u 11 = (.agg (bv l).toArray) := r11
    replace r12 : u 12 = (str (Sha.text l)) := r12
    replace r13 : u 13 = (.agg (bv m).toArray) := r13
    replace r14 : u 14 = (str (Sha.text m)) := r14
    replace r15 : u 15 = (.bool false) := r15
    replace r16 : u 16 = (.bool true) := r16
    replace r17 : u 17 = (.bool true) := r17
    replace r18 : u 18 = (.bool true) := r18
    replace r19 : u 19 = (.agg (bv l).toArray) := r19
    replace r20 : u 20 = (.agg (bv m).toArray) := r20
    replace r21 : u 21 = (.bool false) := r21
    replace r22 : u 22 = (.bool false) := r22
    replace r23 : u 23 = (.agg (bv m).toArray) := r23
    replace r24 : u 24 = (.agg (bv l).toArray) := r24
    replace r25 : u 25 = (.bool false) := r25
    replace r26 : u 26 = (.bool false) := r26
    replace r27 : u 27 = (.agg (bv l).toArray) := r27
    replace r28 : u 28 = (.agg (bv m).toArray) := r28
    replace r29 : u 29 = (.bool false) := r29
    replace r30 : u 30 = (.bool true) := r30
    replace r31 : u 31 = (.bool true) := r31
    replace r32 : u 32 = (.bool true) := r32
    replace r33 : u 33 = (.agg (bv l).toArray) := r33
    replace r34 : u 34 = (.agg (bv m).toArray) := r34
    replace r35 : u 35 = (.bool false) := r35
    replace r36 : u 36 = (.bool false) := r36
    replace r37 : u 37 = undef := r37
    replace r38 : u 38 = undef := r38
    replace r39 : u 39 = undef := r39
    replace r40 : u 40 = (.bool false) := r40
    replace r41 : u 41 = (.bool true) := r41
    replace r42 : u 42 = (.bool true) := r42
    replace r43 : u 43 = (.bool true) := r43
    replace r44 : u 44 = (.bool true) := r44
    replace r45 : u 45 = (.bool true) := r45
    simp only [mkAct, List.foldl_cons, List.foldl_nil, List.setIfInBounds_toArray, List.set_cons_succ, List.set_cons_zero]
    try simp only [str, r0, r1, r2, r3, r4, r5, r6, r7, r8, r9, r10, r11, r12, r13, r14, r15, r16, r17, r18, r19, r20, r21, r22, r23, r24, r25, r26, r27, r28, r29, r30, r31, r32, r33, r34, r35, r36, r37, r38, r39, r40, r41, r42, r43, r44, r45]
    go_wp2
    go_ret
    exact ⟨rfl, (hs0.out.trans hs1.out).trans hI⟩
theorem walk_DigestOrder (w : World) (l : List UInt8) (hl : l.length = 32) (m : List UInt8) (hm : m.length = 32) :
    Calls Try.prog 4 #[.agg (bv l).toArray, .agg (bv m).toArray] w fun e w' => e = .returned (.bool true) ∧ Same w w' := by
  obtain ⟨h1, h2⟩ := bytesLess_one l m (by omega)
  cases hp : Op.bytesLess l m with
  | true =>
    cases hq : Op.bytesLess m l with
    | true => rw [hp, hq] at h2; cases h2
    | false => exact order_1 w l m hl hm hp hq (by rw [← h1, hp]; rfl)
  | false =>
    cases hq : Op.bytesLess m l with
    | true => exact order_2 w l m hl hm hp hq (by rw [← h1, hp, hq]; rfl)
    | false => exact order_3 w l m hl hm hp hq (by rw [← h1, hp, hq]; rfl)
end Go.Proofs.Yteokeidclgfgnaa
