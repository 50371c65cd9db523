/-
  The digest's Less and Share, the program's and the document's.
-/
import Derived.Test.YteokeidclgfgnaaText
import Derived.Test.YteokeidclgfgnaaSha8
namespace Go.Proofs.Yteokeidclgfgnaa
open Go Go.RowKit
set_option linter.unusedSimpArgs false
set_option linter.unusedVariables false

theorem dig_cell {w : World} {b T : Nat} {l : List UInt8} (h : w.heap[b]? = some (.cells (bv l).toArray T (0, 0))) {j : Nat} (hj : j < l.length) : w.cell? ⟨b, j, none⟩ = some (.int .u8 ((l.getD j 0).toNat : Int)) := by
  rw [blk_cell h, List.getElem?_toArray, bv_get hj]
  simp [List.getD, hj]
theorem dig_info {l : List UInt8} (hl : l.length = 32) : (Try.prog.info? 28).map (·.size) = some (bv l).toArray.size := by
  rw [List.size_toArray, bv_length, hl]
  kernel_rfl
theorem dig_conv {w : World} {b T : Nat} {l : List UInt8} (hl : l.length = 32) (h : w.heap[b]? = some (.cells (bv l).toArray T (0, 0))) : Sl w 1 (some ⟨b, 0, none⟩) 32 32 (bv l) := sl_of_row h (by rw [bv_length]; exact hl) (by omega : 32 ≤ 2 ^ 60)
set_option maxRecDepth 100000 in
set_option maxHeartbeats 1600000 in
theorem less_any (l m : List UInt8) (hl : l.length = 32) (hm : m.length = 32) (w : World) :
    Calls Try.prog 18 #[.agg (bv l).toArray, .agg (bv m).toArray] w fun e w' => e = .returned (.bool (Op.bytesLess l m)) ∧ Same w w' := by
  have hinf := dig_info hl
  have hinf2 := dig_info hm
  replace hinf := Lib.hid hinf
  replace hinf2 := Lib.hid hinf2
  go_enter Try.func18, Try.ntmps18
  go_wp2_with (first | (refine box_row rfl _ _ rfl _ rfl hinf.out ?_; intro w0 hbx hs0; have hb0 := blk_lt hbx; replace hbx := Lib.hid hbx; replace hs0 := Lib.hid hs0) | (refine box_row rfl _ _ rfl _ rfl hinf2.out ?_; intro w1 hbx1 hs1; have hb1 := blk_lt hbx1; have hbx2 := (hs1.block _ hb0).trans hbx.out; replace hbx2 := Lib.hid hbx2; replace hbx1 := Lib.hid hbx1; replace hs1 := Lib.hid hs1))
  refine wp_region_last (by kernel_rfl) [(5, 0), (6, 1), (7, 2), (8, 3), (9, 4), (4, 5)] Same (Same _) [isV (.slice (some ⟨w.heap.size, 0, none⟩) 32 32), isV (str l), isV (.slice (some ⟨w0.heap.size, 0, none⟩) 32 32), isV (str m), isV (.bool (Op.bytesLess l m))] Same.refl.drew (fun _ _ h k => h.trans k) (by simp [isV_stable, isB_stable, isAny_stable]) (by decide) (l := [_, _, _, _, _]) rfl (by decide) (by decide) ?_ ?_
  · refine ⟨?_, ?_, ?_, ?_, ?_, trivial⟩
    all_goals (intro u wx hI hp; simp only [mkAct, List.foldl_cons, List.foldl_nil, List.setIfInBounds_toArray, List.set_cons_succ, List.set_cons_zero])
    · -- operation 0
      go_wp2
      refine stq_v rfl Same.refl ?_
      first | (simp only [mkAct, List.foldl_cons, List.foldl_nil, List.setIfInBounds_toArray, List.set_cons_succ, List.set_cons_zero, upd, reduceIte, Nat.reduceEqDiff, Nat.reduceAdd, str]; done) | (simp [mkAct, upd, str, *]; done)
    · -- operation 1
      obtain ⟨f0, -⟩ := hp
      replace f0 : u 0 = (.slice (some ⟨w.heap.size, 0, none⟩) 32 32) := f0
      try simp only [f0, str]
      go_wp2_with (refine conv_string rfl _ rfl byT u8T strT rfl ((dig_conv hl hbx2.out).same hI) ?_)
      refine stq_v rfl Same.refl ?_
      first | (simp only [mkAct, List.foldl_cons, List.foldl_nil, List.setIfInBounds_toArray, List.set_cons_succ, List.set_cons_zero, upd, reduceIte, Nat.reduceEqDiff, Nat.reduceAdd, f0, str]; done) | (simp [mkAct, upd, f0, str, *]; done)
    · -- operation 2
      go_wp2
      refine stq_v rfl Same.refl ?_
      first | (simp only [mkAct, List.foldl_cons, List.foldl_nil, List.setIfInBounds_toArray, List.set_cons_succ, List.set_cons_zero, upd, reduceIte, Nat.reduceEqDiff, Nat.reduceAdd, str]; done) | (simp [mkAct, upd, str, *]; done)
    · -- operation 3
      obtain ⟨f2, -⟩ := hp
      replace f2 : u 2 = (.slice (some ⟨w0.heap.size, 0, none⟩) 32 32) := f2
      try simp only [f2, str]
      go_wp2_with (refine conv_string rfl _ rfl byT u8T strT rfl ((dig_conv hm hbx1.out).same hI) ?_)
      refine stq_v rfl Same.refl ?_
      first | (simp only [mkAct, List.foldl_cons, List.foldl_nil, List.setIfInBounds_toArray, List.set_cons_succ, List.set_cons_zero, upd, reduceIte, Nat.reduceEqDiff, Nat.reduceAdd, f2, str]; done) | (simp [mkAct, upd, f2, str, *]; done)
    · -- operation 4
      obtain ⟨f1, f3, -⟩ := hp
      replace f1 : u 1 = (str l) := f1
      replace f3 : u 3 = (str m) := f3
      try simp only [f1, f3, str]
      go_wp2
      refine stq_v rfl Same.refl ?_
      first | (simp only [mkAct, List.foldl_cons, List.foldl_nil, List.setIfInBounds_toArray, List.set_cons_succ, List.set_cons_zero, upd, reduceIte, Nat.reduceEqDiff, Nat.reduceAdd, f1, f3, str]; done) | (simp [mkAct, upd, f1, f3, str, *]; done)
  · intro u wx hI hR
    obtain ⟨r0, r1, r2, r3, r4, -⟩ := hR
    replace r0 : u 0 = (.slice (some ⟨w.heap.size, 0, none⟩) 32 32) := r0
    replace r1 : u 1 = (str l) := r1
    replace r2 : u 2 = (.slice (some ⟨w0.heap.size, 0, none⟩) 32 32) := r2
    replace r3 : u 3 = (str m) := r3
    replace r4 : u 4 = (.bool (Op.bytesLess l m)) := r4
    simp only [mkAct, List.foldl_cons, List.foldl_nil, List.setIfInBounds_toArray, List.set_cons_succ, List.set_cons_zero]
    try simp only [str, r0, r1, r2, r3, r4]
    go_wp2
    go_ret
    exact ⟨rfl, (hs0.out.trans hs1.out).trans hI⟩
theorem bytesLess_drop {l m : List UInt8} {k : Nat} (hl : l.length = 32) (hm : m.length = 32) (hk : k < 32) (h : l.take k = m.take k) : Op.bytesLess l m = (decide (l.getD k 0 < m.getD k 0) || (l.getD k 0 == m.getD k 0 && Op.bytesLess (l.drop (k + 1)) (m.drop (k + 1)))) := by
  have key : ∀ k (l m : List UInt8), l.take k = m.take k → k < l.length → k < m.length → Op.bytesLess l m = (decide (l.getD k 0 < m.getD k 0) || (l.getD k 0 == m.getD k 0 && Op.bytesLess (l.drop (k + 1)) (m.drop (k + 1)))) := by
    intro k
    induction k with
    | zero =>
      intro l m _ h1 h2
      rcases l with _ | ⟨x, l⟩
      · simp at h1
      · rcases m with _ | ⟨y, m⟩
        · simp at h2
        · simp [Op.bytesLess]
    | succ k ih =>
      intro l m h h1 h2
      rcases l with _ | ⟨x, l⟩
      · simp at h1
      · rcases m with _ | ⟨y, m⟩
        · simp at h2
        · simp only [List.take_succ_cons, List.cons.injEq] at h
          obtain ⟨rfl, h⟩ := h
          have := ih l m h (by simpa using h1) (by simpa using h2)
          simp only [List.getD_cons_succ, List.drop_succ_cons]
          rw [← this]
          simp [Op.bytesLess]
  exact key k l m h (by omega) (by omega)
theorem take_eq_succ {l m : List UInt8} {k : Nat} (hl : l.length = 32) (hm : m.length = 32) (hk : k < 32) (h : l.take k = m.take k) (he : l.getD k 0 = m.getD k 0) : l.take (k + 1) = m.take (k + 1) := by
  rw [List.take_add_one, List.take_add_one, h]
  have h1 : k < l.length := by omega
  have h2 : k < m.length := by omega
  simp only [List.getD, List.getElem?_eq_getElem h1, List.getElem?_eq_getElem h2, Option.getD_some] at he ⊢
  rw [he]
theorem bytesLess_self (l : List UInt8) : Op.bytesLess l l = false := by
  induction l with
  | nil => rfl
  | cons x l ih => simp [Op.bytesLess, ih]
set_option maxRecDepth 100000 in
set_option maxHeartbeats 1600000 in
theorem rless_any (l m : List UInt8) (hl : l.length = 32) (hm : m.length = 32) (w : World) :
    Calls Try.prog 19 #[.agg (bv l).toArray, .agg (bv m).toArray] w fun e w' => e = .returned (.bool (Op.bytesLess l m)) ∧ Same w w' := by
  have hinf := dig_info hl
  have hinf2 := dig_info hm
  replace hinf := Lib.hid hinf
  replace hinf2 := Lib.hid hinf2
  go_enter Try.func19, Try.ntmps19
  go_wp2_with (first | (refine box_row rfl _ _ rfl _ rfl hinf.out ?_; intro w0 hbx hs0; have hb0 := blk_lt hbx; replace hbx := Lib.hid hbx; replace hs0 := Lib.hid hs0) | (refine box_row rfl _ _ rfl _ rfl hinf2.out ?_; intro w1 hbx1 hs1; have hb1 := blk_lt hbx1; have hbx2 := (hs1.block _ hb0).trans hbx.out; replace hbx2 := Lib.hid hbx2; replace hbx1 := Lib.hid hbx1; replace hs1 := Lib.hid hs1))
  go_loopw [5] (fun i wr => ∃ k : Nat, k ≤ 32 ∧ i = .int .i64 k ∧ l.take k = m.take k ∧ Same w1 wr) (fun i _ => 32 - (intOf i).toNat)
  case atStart => exact ⟨0, by omega, rfl, rfl, Same.refl⟩
  case round =>
    obtain ⟨k, hk, rfl, hlm, hs⟩ := hrel
    by_cases hlt : k < 32
    · have q0 : 0 ≤ (k : Int) := by omega
      have q1 : (k : Int) < 32 := by omega
      have cl := dig_cell ((hs.block _ (by omega)).trans hbx2.out) (j := k) (by omega)
      have cm := dig_cell ((hs.block _ hb1).trans hbx1.out) (j := k) (by omega)
      have hd := bytesLess_drop hl hm hlt hlm
      have ht := take_eq_succ hl hm hlt hlm
      obtain ⟨x, hx⟩ : ∃ x, x = l.getD k 0 := ⟨_, rfl⟩
      obtain ⟨y, hy⟩ : ∃ y, y = m.getD k 0 := ⟨_, rfl⟩
      rw [← hx] at cl hd ht
      rw [← hy] at cm hd ht
      clear hx hy
      replace hlm := Lib.hid hlm
      replace ht := Lib.hid ht
      replace hs := Lib.hid hs
      by_cases he : x = y
      · have ht2 := ht.out he
        subst he
        replace ht2 := Lib.hid ht2
        clear ht
        replace hd := Lib.hid hd
        go_wp2
        go_quiet (fail)
        go_wp2
        go_roundw
        case rel => exact ⟨k + 1, by omega, by go_num, ht2.out, hs.out.drewN _⟩
        case measure => simp [intOf]; omega
      · have he2 : (x.toNat == y.toNat) = false := by
          rw [beq_eq_false_iff_ne]
          exact fun h => he (UInt8.toNat_inj.1 h)
        have he3 : ((x.toNat : Int) != (y.toNat : Int)) = true := by
          simp
          exact fun h => he (UInt8.toNat_inj.1 (by omega))
        have hd2 : Op.bytesLess l m = decide ((x.toNat : Int) < (y.toNat : Int)) := by
          rw [hd]
          have : (x == y) = false := by simpa using he
          rw [this]
          simp [UInt8.lt_iff_toNat_lt]
        replace hd2 := Lib.hid hd2
        clear hd he2
        go_wp2
        go_quiet (fail)
        go_wp2
        go_quiet (fail)
        go_wp2
        go_ret
        exact ⟨by rw [hd2.out]; simp, (((hs0.out.trans hs1.out).trans hs.out).drewN _).drewN _⟩
    · obtain rfl : k = 32 := by omega
      have hlm2 : l = m := by
        rw [List.take_of_length_le (by omega), List.take_of_length_le (by omega)] at hlm
        exact hlm
      subst hlm2
      clear hlm
      go_wp2
      go_ret
      refine ⟨?_, (hs0.out.trans hs1.out).trans hs⟩
      rw [bytesLess_self]
      rfl
/-- A share. -/
def shareOf (l : List UInt8) (n : Int) : Int := if n < 1 then 0 else (Num.val (l.take 7) : Int) % n
theorem val7 (l : List UInt8) : Num.val (l.take 7) < 72057594037927936 := by
  have h1 := Num.val_lt (l.take 7)
  have h2 : (l.take 7).length ≤ 7 := List.length_take_le _ _
  exact Nat.lt_of_lt_of_le h1 (Nat.pow_le_pow_right (by omega) h2)
theorem take7_get {l : List UInt8} {j : Nat} (hj : j < 7) : (l.take 7).getD j 0 = l.getD j 0 := by
  simp only [List.getD, List.getElem?_take, if_pos hj]
set_option maxRecDepth 100000 in
set_option maxHeartbeats 1600000 in
theorem share_any (l : List UInt8) (hl : l.length = 32) (n : Int) (w : World) :
    Calls Try.prog 34 #[.agg (bv l).toArray, .int .i64 n] w fun e w' => e = .returned (.int .i64 (shareOf l n)) ∧ Same w w' := by
  have hinf := Lib.hid (dig_info hl)
  by_cases hn : n < 1
  · rw [shareOf, if_pos hn]
    go_enter Try.func34, Try.ntmps34
    go_wp2_with (refine box_row rfl _ _ rfl _ rfl hinf.out ?_; intro w0 hbx hs0; have hb0 := blk_lt hbx; replace hbx := Lib.hid hbx; replace hs0 := Lib.hid hs0)
    go_ret
    exact ⟨rfl, hs0.out⟩
  · rw [shareOf, if_neg hn]
    go_enter Try.func34, Try.ntmps34
    go_wp2_with (refine box_row rfl _ _ rfl _ rfl hinf.out ?_; intro w0 hbx hs0; have hb0 := blk_lt hbx; replace hbx := Lib.hid hbx; replace hs0 := Lib.hid hs0)
    go_loop [5, 12] (fun x i => ∃ k : Nat, k ≤ 7 ∧ i = .int .i64 k ∧ x = .int .i64 (Num.val ((l.take 7).take k))) (fun _ i => 7 - (intOf i).toNat)
    case atStart => exact ⟨0, by omega, rfl, rfl⟩
    case round =>
      obtain ⟨k, hk, rfl, rfl⟩ := hrel
      by_cases hlt : k < 7
      · have hl7 : (l.take 7).length = 7 := by rw [List.length_take]; omega
        have hor := or_digit (l.take 7) k 7 hl7 hlt (by omega) (fun h => by omega)
        rw [take7_get hlt] at hor
        have cl := dig_cell hbx.out (j := k) (by omega)
        obtain ⟨x, hx⟩ : ∃ x, x = Num.val ((l.take 7).take k) := ⟨_, rfl⟩
        obtain ⟨y, hy⟩ : ∃ y, y = Num.val ((l.take 7).take (k + 1)) := ⟨_, rfl⟩
        obtain ⟨c, hc⟩ : ∃ c, c = l.getD k 0 := ⟨_, rfl⟩
        rw [← hx, ← hy, ← hc] at hor
        rw [← hc] at cl
        rw [← hx]
        obtain ⟨h1, h2⟩ := hor
        have hc2 : c.toNat < 256 := c.toNat_lt
        have q0 : 0 ≤ (k : Int) := by omega
        have q1 : (k : Int) < 7 := by omega
        clear hx hc hl7
        replace hy := Lib.hid hy
        go_wp2
        go_round
        case rel => exact ⟨k + 1, by omega, by go_num, by rw [← hy.out]⟩
        case measure => simp [intOf]; omega
      · obtain rfl : k = 7 := by omega
        have e7 : (l.take 7).take 7 = l.take 7 := by rw [List.take_take]; rfl
        have hv := val7 l
        rw [e7]
        obtain ⟨x, hx⟩ : ∃ x, x = Num.val (l.take 7) := ⟨_, rfl⟩
        rw [← hx] at hv
        rw [← hx]
        replace hx := Lib.hid hx
        clear e7
        go_wp2
        go_ret
        exact ⟨by rw [← hx.out]; rfl, hs0.out⟩
set_option maxRecDepth 100000 in
set_option maxHeartbeats 1600000 in
theorem rshare_any (l : List UInt8) (hl : l.length = 32) (n : Int) (w : World) :
    Calls Try.prog 35 #[.agg (bv l).toArray, .int .i64 n] w fun e w' => e = .returned (.int .i64 (shareOf l n)) ∧ Same w w' := by
  have hinf := Lib.hid (dig_info hl)
  by_cases hn : n < 1
  · rw [shareOf, if_pos hn]
    go_enter Try.func35, Try.ntmps35
    go_wp2_with (refine box_row rfl _ _ rfl _ rfl hinf.out ?_; intro w0 hbx hs0; have hb0 := blk_lt hbx; replace hbx := Lib.hid hbx; replace hs0 := Lib.hid hs0)
    go_ret
    exact ⟨rfl, hs0.out⟩
  · rw [shareOf, if_neg hn]
    go_enter Try.func35, Try.ntmps35
    go_wp2_with (refine box_row rfl _ _ rfl _ rfl hinf.out ?_; intro w0 hbx hs0; have hb0 := blk_lt hbx; replace hbx := Lib.hid hbx; replace hs0 := Lib.hid hs0)
    go_loop [5, 6] (fun x i => ∃ k : Nat, k ≤ 7 ∧ i = .int .i64 k ∧ x = .int .i64 (Num.val ((l.take 7).take k))) (fun _ i => 7 - (intOf i).toNat)
    case atStart => exact ⟨0, by omega, rfl, rfl⟩
    case round =>
      obtain ⟨k, hk, rfl, rfl⟩ := hrel
      by_cases hlt : k < 7
      · have hl7 : (l.take 7).length = 7 := by rw [List.length_take]; omega
        have hor := (or_digit (l.take 7) k 7 hl7 hlt (by omega) (fun h => by omega)).2
        have hsn : Num.val ((l.take 7).take (k + 1)) = 256 * Num.val ((l.take 7).take k) + (l.getD k 0).toNat := by
          rw [List.take_succ_eq_append_getElem (by omega), Num.val_snoc, ← take7_get hlt]
          simp only [List.getD, List.getElem?_eq_getElem (show k < (l.take 7).length by omega), Option.getD_some]
        have cl := dig_cell hbx.out (j := k) (by omega)
        obtain ⟨x, hx⟩ : ∃ x, x = Num.val ((l.take 7).take k) := ⟨_, rfl⟩
        obtain ⟨c, hc⟩ : ∃ c, c = (l.getD k 0).toNat := ⟨_, rfl⟩
        have hc2 : c < 256 := by rw [hc]; exact (l.getD k 0).toNat_lt
        rw [← hx] at hor
        rw [← hx, ← hc] at hsn
        rw [← hc] at cl
        rw [← hx]
        have q0 : 0 ≤ (k : Int) := by omega
        have q1 : (k : Int) < 7 := by omega
        clear hx hc hl7
        replace hsn := Lib.hid hsn
        go_wp2
        go_round
        case rel => exact ⟨k + 1, by omega, by go_num, by rw [hsn.out]; go_num⟩
        case measure => simp [intOf]; omega
      · obtain rfl : k = 7 := by omega
        have e7 : (l.take 7).take 7 = l.take 7 := by rw [List.take_take]; rfl
        have hv := val7 l
        rw [e7]
        obtain ⟨x, hx⟩ : ∃ x, x = Num.val (l.take 7) := ⟨_, rfl⟩
        rw [← hx] at hv
        rw [← hx]
        replace hx := Lib.hid hx
        clear e7
        go_wp2
        go_ret
        exact ⟨by rw [← hx.out]; rfl, hs0.out⟩
end Go.Proofs.Yteokeidclgfgnaa
