/-
  The loops over a mask's numbers: mask.All, mask.Many; the law's all.
-/
import Derived.RangeFuncNested
import Derived.RangeFuncFrom
import Derived.RangeFuncBound
import Derived.RangeFuncCalls
import Derived.RangeFuncLeaves
import Derived.Shelf.Abstract
import Derived.Shelf.RegionOpen
import Derived.WalkKit
import Derived.OwnWalkIn
import Derived.TacticsInMore
import Derived.LoopNIn
import Derived.LoopIn
import Derived.Maps.AppendAt
import Derived.Test.YtkhloanpdehegaaDoorMaskR
namespace Go.Proofs.YtkhloanpdehegaaDoor
open Go Go.RowKit Go.Shelf
set_option linter.unusedSimpArgs false
set_option linter.unusedVariables false

attribute [local go_sem] Oper.semAt_some
theorem others_of_same {W W' : World} (h : Same W W') : KeepsOthers W W' := ⟨h.size, fun k o hk _ => (h.block k (blk_lt hk)).trans hk⟩
theorem box_one (W : World) (v : Value) (t : TypeId) : (W.alloc (.cells #[v] t)).cell? ⟨W.heap.size, 0, none⟩ = some v ∧ (W.alloc (.cells #[v] t)).frozen? ⟨W.heap.size, 0, none⟩ = false :=
  ⟨blk_cell (heap_alloc_new _ _) 0, blk_frozen (heap_alloc_new _ _) 0⟩
def encN (x : Nat) : Array Value := #[.int .i64 (x : Nat)]
theorem Tab.below {n₀ : Nat} {w w' : World} (h : Tab w) (hs : Below n₀ w w') (hg : 0 < n₀) : Tab w' := fun j hj => (hs.cell (p := ⟨0, j, none⟩) hg).trans (h j hj)
theorem Tab.lt {w : World} (h : Tab w) : 0 < w.heap.size := World.block_lt_of_cell? w _ (h 0 (by decide))
theorem and_key (x : Nat) (hx : x < 18446744073709551616) (h0 : x ≠ 0) : bits BinOp.and IntKind.u64 (x : Int) ((x : Int) - 1) = ((x &&& (x - 1) : Nat) : Int) := by
  have e : ((x : Int) - 1) = ((x - 1 : Nat) : Int) := by omega
  rw [e, bits_and_u64_nat x _ hx (by omega)]
set_option maxRecDepth 100000 in
set_option maxHeartbeats 800000 in
theorem all1_in (n : Nat) (hn : 1 ≤ n) (l Bm n₀ m : Nat) (hm : m < 18446744073709551616) (hg : 0 < n₀) (J Jx : List Nat → World → Prop)
    (hY : ∀ pre x W, J pre W → pre.length < 64 → YieldAt Fence.wide (n - 1) Tryd.prog l (encN x) W fun e W' =>
      (e = .returned (.bool true) ∧ J (pre ++ [x]) W' ∧ Below n₀ W W') ∨ (e = .returned (.bool false) ∧ Jx (pre ++ [x]) W'))
    (W : World) (hBm : W.cell? ⟨Bm, 0, none⟩ = some (.int .u64 m)) (hT : Tab W) (h0 : J [] W) :
    CallsIn Fence.wide n Tryd.prog 43 #[.func (.yield l) #[] #[], .pointer (some ⟨Bm, 0, none⟩)] W fun e W' => (∃ v, e = .returned v) ∧
      ((∃ ys, ys = mlist m ∧ J ys W') ∨ (∃ pre, pre <+: mlist m ∧ Jx pre W')) := by
  have htz := fun x hx w h => tz_any x hx w h
  obtain ⟨M, hM⟩ : ∃ M, M = mlist m := ⟨_, rfl⟩
  have hMl : M.length ≤ 64 := by rw [hM]; exact mlist_le m
  have hstep : ∀ x : Nat, x ≠ 0 → x < 18446744073709551616 → mlist x = Lib.ctz 64 x :: mlist (x &&& (x - 1)) := fun x h1 h2 => mlist_step h1 h2
  rw [← hM]
  replace htz := Lib.hid htz
  replace hM := Lib.hid hM
  replace hstep := Lib.hid hstep
  refine callsIn_of_wp Tryd.func43 rfl trivial ?_ rfl
  simp only [Tryd.ntmps43, List.size_toArray, List.length_cons, List.length_nil, Nat.reduceAdd, Nat.reduceSub, Array.replicate_succ, Array.replicate_zero, List.push_toArray, List.append_toArray, List.nil_append, List.cons_append]
  gi_wp2
  gi_loopw [3] (fun v wr => ∃ (x : Nat) (pre : List Nat), v = .int .u64 x ∧ x < 18446744073709551616 ∧ M = pre ++ mlist x ∧ J pre wr ∧ Below n₀ W wr)
    (fun v _ => (intOf v).toNat)
  case atStart => exact ⟨m, [], rfl, hm, by rw [hM.out]; rfl, h0, Below.refl _ _⟩
  case round =>
    obtain ⟨x, pre, rfl, hx, hpre, hJs, hnx⟩ := hrel
    have hTr : Tab wr := hT.below hnx hg
    by_cases hx0 : x = 0
    · subst hx0
      have hMp : pre = M := by rw [hpre, mlist_zero, List.append_nil]
      replace hpre := Lib.hid hpre
      gi_wp2
      go_end0
      exact ⟨⟨_, rfl⟩, .inl ⟨_, hMp, hJs⟩⟩
    · have hst := hstep.out x hx0 hx
      have hc := htz.out x hx wr hTr
      have hak := and_key x hx hx0
      have hlt := and_pred_lt hx0
      obtain ⟨k, hk⟩ : ∃ k, k = Lib.ctz 64 x := ⟨_, rfl⟩
      obtain ⟨y, hy⟩ : ∃ y, y = x &&& (x - 1) := ⟨_, rfl⟩
      rw [← hk] at hst hc
      rw [← hy] at hst hak hlt
      have hyl : y < 18446744073709551616 := by omega
      rw [hst] at hpre
      have hlen : pre.length < 64 := by rw [hpre] at hMl; simp at hMl; omega
      obtain ⟨fn, tmps, assign, body, hyd, hR⟩ := hY pre k wr hJs hlen
      have hz : ((x : Int) != 0) = true := by simp; omega
      have hp2 : M = (pre ++ [k]) ++ mlist y := by rw [hpre, List.append_assoc]; rfl
      have hpx : pre ++ [k] <+: M := ⟨mlist y, hp2.symm⟩
      clear hk hy hst hpre
      replace hp2 := Lib.hid hp2
      replace hc := Lib.hid hc
      dsimp only [encN] at hyd
      gi_wp2_with (refine ⟨trivial, (callsIn_wide.2 hc.out).mono ?_⟩; rintro e w' ⟨rfl, rfl⟩)
      refine hR.mono ?_
      rintro e W3 (⟨rfl, hJ3, hk3⟩ | ⟨rfl, hJx3⟩)
      · gi_wp2
        go_roundw
        case rel => exact ⟨y, pre ++ [k], by first | rfl | simp, hyl, hp2.out, hJ3, hnx.trans hk3⟩
        case measure => simp [intOf]; omega
      · gi_wp2
        refine bodyPost_ret (results_none rfl _ _ _) rfl ?_
        exact ⟨⟨_, rfl⟩, .inr ⟨_, hpx, hJx3⟩⟩
theorem all_stops (n : Nat) (hn : 1 ≤ n) (Bm n₀ m : Nat) (hm : m < 18446744073709551616) (w : World) (hg : 0 < n₀)
    (hBm : w.cell? ⟨Bm, 0, none⟩ = some (.int .u64 m)) (hT : Tab w) :
    SeqStopsK Fence.wide n Tryd.prog 43 #[.pointer (some ⟨Bm, 0, none⟩)] encN (Below n₀) (fun ys => ys = mlist m) (fun pre => pre <+: mlist m) 64 w := fun l J Jx W hW _ _ hY h0 =>
  all1_in n hn l Bm n₀ m hm hg J Jx hY W ((hW.cell (p := ⟨Bm, 0, none⟩) (World.block_lt_of_cell? w _ hBm)).trans hBm) (hT.below hW hT.lt) h0
set_option maxRecDepth 100000 in
set_option maxHeartbeats 400000 in
theorem all_in (n : Nat) (m : Nat) (w : World) :
    CallsIn Fence.wide n Tryd.prog 11 #[.int .u64 m] w fun e w' => e = .returned (.func (.func 43) #[] #[.pointer (some ⟨w.heap.size, 0, none⟩)]) ∧ w' = w.alloc (.cells #[.int .u64 m] 22) := by
  refine callsIn_of_wp Tryd.func11 rfl trivial ?_ rfl
  simp only [Tryd.ntmps11, List.size_toArray, List.length_cons, List.length_nil, Nat.reduceAdd, Nat.reduceSub, Array.replicate_succ, Array.replicate_zero, List.push_toArray, List.append_toArray, List.nil_append, List.cons_append]
  gi_wp2
  go_ret
  exact ⟨rfl, rfl⟩
set_option maxRecDepth 100000 in
set_option maxHeartbeats 1600000 in
theorem many_any (m : Nat) (w : World) (hm : m < 18446744073709551616) (hT : Tab w) :
    Calls Tryd.prog 12 #[.int .u64 m] w fun e w' => e = .returned (.int .i64 ((mlist m).length : Nat)) ∧ Same w w' := by
  have hall := Lib.hid (fun w => all_in 8 m w)
  have hst := Lib.hid (fun Bm n₀ w h1 h2 h3 => all_stops 8 (by omega) Bm n₀ m hm w h1 h2 h3)
  have hle := Lib.hid (mlist_le m)
  refine (callsIn_wide (n := 9)).1 ?_
  refine callsIn_of_wp_marks Tryd.func12 rfl trivial ?_ rfl
  simp only [Tryd.ntmps12, List.size_toArray, List.length_cons, List.length_nil, Nat.reduceAdd, Nat.reduceSub, Array.replicate_succ, Array.replicate_zero, List.push_toArray, List.append_toArray, List.nil_append, List.cons_append]
  gi_wp2_with (refine ⟨trivial, (hall.out _).mono ?_⟩; rintro e w' ⟨rfl, rfl⟩)
  have c0 := box_one w (.int .i64 0) 3
  have c1 := (box_one (w.alloc (.cells #[.int .i64 0] 3)) (.int .u64 m) 22).1
  rw [World.size_alloc] at c1
  have c0a := (Same.refl.alloc (.cells #[.int .u64 m] 22) (w := w.alloc (.cells #[.int .i64 0] 3))).cell c0.1
  have c0b := ((Same.refl.alloc (.cells #[.int .u64 m] 22) (w := w.alloc (.cells #[.int .i64 0] 3))).frozen (show w.heap.size < (w.alloc (.cells #[.int .i64 0] 3)).heap.size by simp)).trans c0.2
  have s0 : Same w ((w.alloc (.cells #[.int .i64 0] 3)).alloc (.cells #[.int .u64 m] 22)) := (Same.refl.alloc _).alloc _
  have hgl := hT.lt
  have hseq := hst.out (w.heap.size + 1) w.heap.size _ hgl c1 (hT.same s0)
  obtain ⟨w2, hw2⟩ : ∃ w2, w2 = (w.alloc (.cells #[.int .i64 0] 3)).alloc (.cells #[.int .u64 m] 22) := ⟨_, rfl⟩
  have z2 : w2.heap.size = w.heap.size + 2 := by rw [hw2]; simp
  rw [← hw2] at hseq s0 c0a c0b ⊢
  clear hw2 c0 c1 hst
  refine wpIn_rangeFunc_ownF rfl (by omega) (gf := 43) (lb := #[.pointer (some ⟨w.heap.size + 1, 0, none⟩)]) rfl trivial (enters_of Tryd.func43 (by kernel_rfl) rfl)
    hseq belowK_t (belowK_b (by omega)) (Below.refl _ _) (fun _ => rfl)
    (fun pre W => (W.cell? ⟨w.heap.size, 0, none⟩ = some (.int .i64 (pre.length : Nat)) ∧ W.frozen? ⟨w.heap.size, 0, none⟩ = false) ∧ Below w.heap.size w W)
    (fun _ _ _ => False)
    (OwnFrom.and (Own.from (fun s A B row hs hg hr => ⟨cell_kept hs.1 hg hr, (frozen_kept hs.1 hg hr).trans hs.2⟩) _) (ownFrom_below (Nat.le_refl _) (by omega)))
    (fun _ _ _ _ _ hs _ _ => hs)
    ⟨⟨c0a, c0b⟩, s0⟩
    (fun x => { tmps := #[.int .u64 m, undef, .pointer (some ⟨w.heap.size, 0, none⟩), .int .u64 m, .func (.func 43) #[] #[.pointer (some ⟨w.heap.size + 1, 0, none⟩)], .int .i64 (x : Nat), undef, undef, undef], defers := [] }) ?assign ?body ?done ?stop
  case assign =>
    intro l x W K hK
    simp only [encN]
    gi_wp2
    first | exact hK | simpa [Array.zip] using hK
  case body =>
    rintro lp pre x W ⟨⟨hc, hf⟩, hB⟩ hlen
    have e : ((pre ++ [x]).length : Int) = (pre.length : Int) + 1 := by simp
    obtain ⟨k, hk⟩ : ∃ k, k = pre.length := ⟨_, rfl⟩
    rw [← hk] at hc hlen e
    replace e := Lib.hid e
    clear hk
    gi_wp2
    exact ⟨KeepsOthers.setCell _ _ _, (Below.refl w.heap.size W).setCell (p := ⟨w.heap.size, 0, none⟩) (Nat.le_refl _) _, ⟨by rw [e.out]; exact World.cell?_setCell_same' _ _ _ (by rw [hc]; rfl), by rw [World.frozen?_setCell]; exact hf⟩, hB.setCell (p := ⟨w.heap.size, 0, none⟩) (Nat.le_refl _) _⟩
  case done =>
    rintro D ys W hD rfl ⟨⟨hc, hf⟩, hB⟩ hK
    obtain ⟨k, hk⟩ : ∃ k, k = (mlist m).length := ⟨_, rfl⟩
    rw [← hk] at hc
    replace hk := Lib.hid hk
    gi_wp2
    have hK' := (KeepsOthers.setCell W ⟨w.heap.size, 0, none⟩ (.int .i64 (k : Nat))).same D _ hK rfl
    refine ⟨by simp, .inl ⟨_, _, rfl, run_takeDeferred hK', ?_⟩⟩
    have hc5 := cell_kept (World.cell?_setCell_same' W ⟨w.heap.size, 0, none⟩ (.int .i64 (k : Nat)) (by rw [hc]; rfl)) (grownBy_putObj' _ D (.deferred none)) (fun r e => by cases e; exact ⟨_, hK', rfl⟩)
    refine ⟨.int .i64 (k : Nat), ?_, by rw [hk.out], Below.trans (hB.setCell (p := ⟨w.heap.size, 0, none⟩) (Nat.le_refl _) _) (belowK_b (w := w) (Nat.le_refl _) _ D _ _ (by omega) hK' rfl rfl)⟩
    simp [results, Tryd.f12, go_sem, hc5]
  case stop =>
    rintro D c pre W _ _ h _
    exact h.elim
theorem eql_func (w : World) (fn : Fn) (fi ca : Array Value) : (binOp .eql 24 (.func fn fi ca) .nilFunc).run Tryd.prog w = .ok (.bool false) w := by
  have h := Tryd.underlying24
  have key : ∀ d, (Op.equalIn (d + 1) 24 (.func fn fi ca) .nilFunc).run Tryd.prog w = .ok false w := by
    intro d
    simp [Op.equalIn, run_underlying h]
  simp only [binOp]
  simp [Op.equal, Op.maxDepth, key 9999]
theorem nints_snoc (l : List Nat) (x : Nat) : nints (l ++ [x]) = nints l ++ [(x : Int)] := by simp [nints]
theorem nints_length (l : List Nat) : (nints l).length = l.length := by simp [nints]
theorem infoI : (Tryd.prog.info? 3).map (fun i => (i.zero, i.size, i.bytes)) = some (some (.int .i64 0), 1, 8) := by kernel_rfl
set_option maxRecDepth 100000 in
set_option maxHeartbeats 1600000 in
theorem lawall_any (m : Nat) (w : World) (hm : m < 18446744073709551616) (hT : Tab w) :
    Calls Tryd.prog 14 #[.int .u64 m] w (RetI w (nints (mlist m))) := by
  have hall := Lib.hid (fun w => all_in 8 m w)
  have hst := Lib.hid (fun Bm n₀ w h1 h2 h3 => all_stops 8 (by omega) Bm n₀ m hm w h1 h2 h3)
  have hle := Lib.hid (mlist_le m)
  have heq := eql_func
  refine (callsIn_wide (n := 9)).1 ?_
  refine callsIn_of_wp_marks Tryd.func14 rfl trivial ?_ rfl
  simp only [Tryd.ntmps14, List.size_toArray, List.length_cons, List.length_nil, Nat.reduceAdd, Nat.reduceSub, Array.replicate_succ, Array.replicate_zero, List.push_toArray, List.append_toArray, List.nil_append, List.cons_append]
  gi_wp2_with (refine ⟨trivial, (hall.out _).mono ?_⟩; rintro e w' ⟨rfl, rfl⟩)
  have b0 : Boxed (w.alloc (.cells #[.slice none 0 0] 29)) w.heap.size 29 (.slice none 0 0) := Boxed.new w _ _
  have b1 := b0.alloc (.cells #[.int .u64 m] 22)
  have c1 := (box_one (w.alloc (.cells #[.slice none 0 0] 29)) (.int .u64 m) 22).1
  rw [World.size_alloc] at c1
  have s0 : Same w ((w.alloc (.cells #[.slice none 0 0] 29)).alloc (.cells #[.int .u64 m] 22)) := (Same.refl.alloc _).alloc _
  have hgl := hT.lt
  have hseq := hst.out (w.heap.size + 1) w.heap.size _ hgl c1 (hT.same s0)
  obtain ⟨w2, hw2⟩ : ∃ w2, w2 = (w.alloc (.cells #[.slice none 0 0] 29)).alloc (.cells #[.int .u64 m] 22) := ⟨_, rfl⟩
  have z2 : w2.heap.size = w.heap.size + 2 := by rw [hw2]; simp
  rw [← hw2] at hseq s0 b1 ⊢
  clear hw2 b0 c1 hst
  gi_wp2_with (simp only [heq])
  refine wpIn_rangeFunc_ownF rfl (by omega) (gf := 43) (lb := #[.pointer (some ⟨w.heap.size + 1, 0, none⟩)]) rfl trivial (enters_of Tryd.func43 (by kernel_rfl) rfl)
    hseq belowK_t (belowK_b (by omega)) (Below.refl _ _) (fun _ => rfl)
    (fun pre W => (∃ v, Boxed W w.heap.size 29 v ∧ W.ownsRow w.heap.size 3 1 v (nints pre).length (iv (nints pre)) ∧ True) ∧ Below w.heap.size w W)
    (fun _ _ _ => False)
    (OwnFrom.and (Own.from (holdsRow_own w.heap.size w.heap.size 29 3 1 (fun pre => (nints pre).length) (fun pre => iv (nints pre)) (fun _ _ => True)) _) (ownFrom_below (Nat.le_refl _) (by omega)))
    (fun _ _ _ _ _ hs _ _ => hs)
    ⟨⟨_, b1, World.ownsRow_nil _ _ _ _, trivial⟩, s0⟩
    (fun x => { tmps := #[.int .u64 m, undef, .slice none 0 0, .pointer (some ⟨w.heap.size, 0, none⟩), .func (.func 43) #[] #[.pointer (some ⟨w.heap.size + 1, 0, none⟩)], .int .i64 (x : Nat), .int .u64 m, .func (.func 43) #[] #[.pointer (some ⟨w.heap.size + 1, 0, none⟩)], .func (.func 43) #[] #[.pointer (some ⟨w.heap.size + 1, 0, none⟩)], .bool false, .func (.func 43) #[] #[.pointer (some ⟨w.heap.size + 1, 0, none⟩)], .int .i64 (x : Nat), undef, undef, undef, undef, undef], defers := [] }) ?assign ?body ?done ?stop
  case assign =>
    intro l x W K hK
    simp only [encN]
    gi_wp2
    first | exact hK | simpa [Array.zip] using hK
  case body =>
    rintro lp pre x W ⟨⟨v, hv, hrow, _⟩, hB⟩ hlen
    have e1 : (nints (pre ++ [x])).length = (nints pre).length + 1 := by simp [nints]
    have e2 : iv (nints (pre ++ [x])) = iv (nints pre) ++ [.int .i64 (x : Nat)] := by rw [nints_snoc, iv_append]; rfl
    have hle2 : (nints pre).length < 64 := by rw [nints_length]; exact hlen
    obtain ⟨k, hk⟩ : ∃ k, k = (nints pre).length := ⟨_, rfl⟩
    obtain ⟨o, ho⟩ : ∃ o, o = iv (nints pre) := ⟨_, rfl⟩
    rw [← hk] at hrow e1 hle2
    rw [← ho] at hrow e2
    replace e1 := Lib.hid e1
    replace e2 := Lib.hid e2
    clear hk ho hlen
    obtain ⟨i0, hi, hz0, hz1, hz2⟩ := info_parts infoI
    have hc0 := hv.cell
    have hn0 : w.heap.size ≤ W.heap.size := hB.size
    gi_wp2_with (gi_at_builtin; refine wpListIn_append_own _ rfl _ _ 29 rfl w.heap.size 3 i0 (.int .i64 0) 1 8 Tryd.underlying29 hi hz0 hz1 hz2 rfl (by decide) _ _ _ rfl (hrow.alloc _) ⟨W.heap.size, 0, none⟩ 1 1 [.int .i64 (x : Nat)] rfl rfl (cell_one_new _ _ _) (by simp [Value.oneCell']) (by unfold maxLen; omega) (by omega) (by rw [World.size_alloc]; omega) ?_; intro v' w1 hown' hgrow _; obtain ⟨g', cap', rfl⟩ := ownsRow_succ hown'; obtain ⟨hv1, hv2, hr2, hk2, hb2⟩ := hv.appended (by decide) hrow hn0 (Nat.le_refl _) hown' hgrow; have hc1 := hv1.cell; have hf1 := hv1.frozen)
    exact ⟨hk2, hb2, ⟨_, hv2, by rw [e1.out, e2.out]; exact hr2, trivial⟩, hB.trans hb2⟩
  case done =>
    rintro D ys W hD rfl ⟨⟨v, hv, hrow, _⟩, hB⟩ hK
    have hc0 := hv.cell
    obtain ⟨o, ho⟩ : ∃ o, o = nints (mlist m) := ⟨_, rfl⟩
    rw [← ho] at hrow
    replace ho := Lib.hid ho
    gi_wp2
    refine ⟨by simp, .inl ⟨_, _, rfl, run_takeDeferred hK, ?_⟩⟩
    exact ⟨_, results_tmp rfl _ _ _, ⟨v, rfl, by rw [← ho.out]; exact ownsRow_putObj hrow _ hK rfl, hB.trans (belowK_b (w := w) (Nat.le_refl _) W D _ _ (by omega) hK rfl rfl)⟩⟩
  case stop =>
    rintro D c pre W _ _ h _
    exact h.elim
end Go.Proofs.YtkhloanpdehegaaDoor
