/-
  Who owns a bucket: leaders.in, leaders.round, leaders.Owner (a loop over a function).
-/
import Derived.RangeFuncNested
import Derived.RangeFuncFrom
import Derived.RangeFuncBound
import Derived.RangeFuncCalls
import Derived.RangeFuncLeaves
import Derived.Shelf.Abstract
import Derived.Shelf.RegionOpen
import Derived.WalkKit
import Derived.OwnWalkIn
import Derived.TacticsInMore
import Derived.LoopNIn
import Derived.LoopIn
import Derived.Test.YtmacgmmjgdmleaaCfg
namespace Go.Proofs.Ytmacgmmjgdmleaa
open Go Go.RowKit Go.Shelf
set_option linter.unusedSimpArgs false
set_option linter.unusedVariables false

set_option maxRecDepth 100000 in
set_option maxHeartbeats 1600000 in
theorem lin_any (ao : Option Addr) (len cap : Nat) (l : List Int) (n : Int) (w : World) (hsl : Sl w 1 ao len cap (iv l)) :
    Calls Try.prog 173 #[.slice ao len cap, .int .i64 n] w fun e w' => e = .returned (.bool (decide (n ∈ l))) ∧ Same w w' := by
  have hll : l.length = len := by have := hsl.len; rw [iv_length] at this; omega
  have hcap := hsl.cap
  have hmost := hsl.most
  unfold maxLen at hmost
  obtain ⟨R, hR⟩ : ∃ R, R = decide (n ∈ l) := ⟨_, rfl⟩
  rw [← hR]
  have hyes : ∀ k, k < len → l.getD k 0 = n → R = true := by
    intro k hk he
    rw [hR, decide_eq_true_iff, ← he]
    simp only [List.getD, List.getElem?_eq_getElem (show k < l.length by omega), Option.getD_some]
    exact List.getElem_mem _
  have hno : n ∉ l.take len → R = false := by
    intro h
    rw [List.take_of_length_le (by omega)] at h
    rw [hR, decide_eq_false h]
  have hnx : ∀ k, k < len → n ∉ l.take k → l.getD k 0 ≠ n → n ∉ l.take (k + 1) := by
    intro k hk h1 h2
    rw [List.take_succ_eq_append_getElem (by omega)]
    simp only [List.getD, List.getElem?_eq_getElem (show k < l.length by omega), Option.getD_some] at h2
    simp only [List.mem_append, List.mem_singleton, not_or]
    exact ⟨h1, fun h => h2 h.symm⟩
  replace hR := Lib.hid hR
  replace hyes := Lib.hid hyes
  replace hno := Lib.hid hno
  replace hnx := Lib.hid hnx
  replace hsl := Lib.hid hsl
  go_enter Try.func173, Try.ntmps173
  obtain ⟨w0, hw0⟩ : ∃ w0, w0 = w := ⟨_, rfl⟩
  have hs0 : Same w w0 := by rw [hw0]; exact Same.refl
  rw [← hw0]
  clear hw0
  replace hs0 := Lib.hid hs0
  go_wp2
  go_loopw [9] (fun i wr => ∃ k : Nat, k ≤ len ∧ i = .int .i64 k ∧ n ∉ l.take k ∧ Same w0 wr) (fun i _ => len - (intOf i).toNat)
  case atStart => exact ⟨0, by omega, rfl, by simp, Same.refl⟩
  case round =>
    obtain ⟨k, hk, rfl, hnt, hs⟩ := hrel
    by_cases hlt : k < len
    · obtain ⟨bk, off, rfl, _, hcell⟩ := hsl.out.at (by intro h2; rw [iv, List.map_eq_nil_iff] at h2; rw [h2] at hll; simp at hll; omega)
      have cc := (hs0.out.trans hs).cell (hcell k _ (iv_get (by omega)))
      have hx : l[k]'(by omega) = l.getD k 0 := by simp [List.getD, show k < l.length by omega]
      rw [hx] at cc
      have hy := hyes.out k hlt
      have hn := hnx.out k hlt hnt
      obtain ⟨x, hxe⟩ : ∃ x, x = l.getD k 0 := ⟨_, rfl⟩
      rw [← hxe] at cc hy hn
      have q0 : 0 ≤ (k : Int) := by omega
      have q1 : (k : Int) < (len : Int) := by omega
      clear hcell hx hxe hnt
      replace hs := Lib.hid hs
      by_cases hxn : x = n
      · have hR2 := hy hxn
        have hb : (x == n) = true := by simp [hxn]
        clear hy hn hxn
        replace hR2 := Lib.hid hR2
        go_wp2
        go_ret
        exact ⟨by rw [hR2.out]; rfl, hs.out⟩
      · have hn2 := hn hxn
        have hb : (x == n) = false := by simpa using hxn
        clear hy hn hxn
        replace hn2 := Lib.hid hn2
        go_wp2
        go_roundw
        case rel => exact ⟨k + 1, by omega, by go_num, hn2.out, hs.out⟩
        case measure => simp [intOf]; omega
    · obtain rfl : k = len := by omega
      have hR2 := hno.out hnt
      clear hnt
      replace hR2 := Lib.hid hR2
      go_wp2
      go_ret
      exact ⟨by rw [hR2.out]; rfl, hs⟩
attribute [local go_sem] Oper.semAt_some
/-- The nodes in turn, from one on. -/
def turnOf (from_ : Int) (N k : Nat) : List Int := (List.range k).map fun i : Nat => (from_ + (i : Int)) % (N : Int)
theorem turnOf_succ (from_ : Int) (N k : Nat) : turnOf from_ N (k + 1) = turnOf from_ N k ++ [(from_ + (k : Int)) % (N : Int)] := by simp [turnOf, List.range_succ]
theorem turnOf_length (from_ : Int) (N k : Nat) : (turnOf from_ N k).length = k := by simp [turnOf]
theorem turnOf_prefix (from_ : Int) (N : Nat) {k m : Nat} (h : k ≤ m) : turnOf from_ N k <+: turnOf from_ N m := by
  obtain ⟨d, rfl⟩ := Nat.le.dest h
  rw [turnOf, turnOf, List.range_add, List.map_append]
  exact List.prefix_append _ _
set_option maxRecDepth 100000 in
set_option maxHeartbeats 400000 in
theorem round1_in (F : Fence) (n : Nat) (h7 : F.fn 192) (hro : F.round = none) (hn : 1 ≤ n) (l Bs Bf n₀ N : Nat) (from_ : Int) (hN : N ≤ 1000) (h0f : 0 ≤ from_) (h1f : from_ ≤ 2000000) (hb : Bs < n₀) (hb2 : Bf < n₀) (J Jx : List Int → World → Prop)
    (hY : ∀ pre x W, J pre W → pre.length < N → YieldAt F (n - 1) Try.prog l #[.int .i64 x] W fun e W' =>
      (e = .returned (.bool true) ∧ J (pre ++ [x]) W' ∧ Below n₀ W W') ∨ (e = .returned (.bool false) ∧ Jx (pre ++ [x]) W'))
    (W : World) (hBs : W.cell? ⟨Bs, 0, none⟩ = some (.int .i64 N)) (hBf : W.cell? ⟨Bf, 0, none⟩ = some (.int .i64 from_)) (h0 : J [] W) :
    CallsIn F n Try.prog 192 #[.func (.yield l) #[] #[], .pointer (some ⟨Bs, 0, none⟩), .pointer (some ⟨Bf, 0, none⟩)] W fun e W' => (∃ v, e = .returned v) ∧
      ((∃ ys, ys = turnOf from_ N N ∧ J ys W') ∨ (∃ pre, pre <+: turnOf from_ N N ∧ Jx pre W')) := by
  refine callsIn_of_wp Try.func192 rfl h7 ?_ hro
  simp only [Try.ntmps192, List.size_toArray, List.length_cons, List.length_nil, Nat.reduceAdd, Nat.reduceSub, Array.replicate_succ, Array.replicate_zero, List.push_toArray, List.append_toArray, List.nil_append, List.cons_append]
  gi_wp2
  gi_loopw [6] (fun i wr => ∃ k : Nat, k ≤ N ∧ i = .int .i64 k ∧ J (turnOf from_ N k) wr ∧ Below n₀ W wr)
    (fun i _ => N - (intOf i).toNat)
  case atStart => exact ⟨0, Nat.zero_le _, rfl, h0, Below.refl _ _⟩
  case round =>
    obtain ⟨k, hk, rfl, hJs, hnx⟩ := hrel
    have hc1 := (hnx.cell (p := ⟨Bs, 0, none⟩) hb).trans hBs
    have hc2 := (hnx.cell (p := ⟨Bf, 0, none⟩) hb2).trans hBf
    by_cases hlt : k < N
    · obtain ⟨x, hx⟩ : ∃ x, x = (from_ + (k : Int)) % (N : Int) := ⟨_, rfl⟩
      have hz : ((N : Int) == 0) = false := by simp; omega
      have hs1 : IntKind.i64.wrap (from_ + (k : Int)) = from_ + k := IntWalk.i64_in _ ⟨by omega, by omega⟩
      have hm : (from_ + (k : Int)).tmod (N : Int) = x := by rw [hx, Int.tmod_eq_emod_of_nonneg (by omega)]
      have hxlt : x < (N : Int) := by rw [hx]; exact Int.emod_lt_of_pos _ (by omega)
      have hxge : 0 ≤ x := by rw [hx]; exact Int.emod_nonneg _ (by omega)
      have hw : IntKind.i64.wrap x = x := IntWalk.i64_in _ ⟨by omega, by omega⟩
      have hsu := turnOf_succ from_ N k
      rw [← hx] at hsu
      obtain ⟨fn, tmps, assign, body, hy, hR⟩ := hY _ x wr hJs (by rw [turnOf_length]; exact hlt)
      rw [← hsu] at hR
      clear hx
      replace hsu := Lib.hid hsu
      gi_wp2
      refine hR.mono ?_
      rintro e W3 (⟨rfl, hJ3, hk3⟩ | ⟨rfl, hJx3⟩)
      · gi_wp2
        go_roundw
        case rel => exact ⟨k + 1, by omega, by simp, hJ3, hnx.trans hk3⟩
        case measure => simp [intOf]; omega
      · gi_wp2
        refine bodyPost_ret (results_none rfl _ _ _) rfl ?_
        exact ⟨⟨_, rfl⟩, .inr ⟨_, turnOf_prefix _ _ (Nat.succ_le_of_lt hlt), hJx3⟩⟩
    · obtain rfl : k = N := by omega
      gi_wp2
      go_end0
      exact ⟨⟨_, rfl⟩, .inl ⟨_, rfl, hJs⟩⟩
theorem round_stops (F : Fence) (n : Nat) (h7 : F.fn 192) (hro : F.round = none) (hn : 1 ≤ n) (Bs Bf n₀ N : Nat) (from_ : Int) (hN : N ≤ 1000) (h0f : 0 ≤ from_) (h1f : from_ ≤ 2000000) (w : World) (hb : Bs < n₀) (hb2 : Bf < n₀) (hn₀ : n₀ ≤ w.heap.size)
    (hBs : w.cell? ⟨Bs, 0, none⟩ = some (.int .i64 N)) (hBf : w.cell? ⟨Bf, 0, none⟩ = some (.int .i64 from_)) :
    SeqStopsK F n Try.prog 192 #[.pointer (some ⟨Bs, 0, none⟩), .pointer (some ⟨Bf, 0, none⟩)] (fun x : Int => #[Value.int .i64 x]) (Below n₀) (fun ys => ys = turnOf from_ N N) (fun pre => pre <+: turnOf from_ N N) N w := fun l J Jx W hW _ _ hY h0 =>
  round1_in F n h7 hro hn l Bs Bf n₀ N from_ hN h0f h1f hb hb2 J Jx hY W ((hW.cell (p := ⟨Bs, 0, none⟩) (show Bs < w.heap.size by omega)).trans hBs) ((hW.cell (p := ⟨Bf, 0, none⟩) (show Bf < w.heap.size by omega)).trans hBf) h0
set_option maxRecDepth 100000 in
set_option maxHeartbeats 400000 in
theorem round_in (F : Fence) (n : Nat) (h5 : F.fn 172) (hro : F.round = none) (N f : Int) (w : World) :
    CallsIn F n Try.prog 172 #[.int .i64 N, .int .i64 f] w fun e w' => e = .returned (.func (.func 192) #[] #[.pointer (some ⟨w.heap.size, 0, none⟩), .pointer (some ⟨w.heap.size + 1, 0, none⟩)]) ∧ w' = (w.alloc (.cells #[.int .i64 N] 3)).alloc (.cells #[.int .i64 f] 3) := by
  refine callsIn_of_wp Try.func172 rfl h5 ?_ hro
  simp only [Try.ntmps172, List.size_toArray, List.length_cons, List.length_nil, Nat.reduceAdd, Nat.reduceSub, Array.replicate_succ, Array.replicate_zero, List.push_toArray, List.append_toArray, List.nil_append, List.cons_append]
  gi_wp2
  go_ret
  exact ⟨rfl, rfl⟩
/-- The owner of a bucket. -/
def lowner (c : Cfg) (n : Int) (l : List Int) (b : Int) : Int :=
  if c.may n = true ∧ 0 ≤ b ∧ b < c.buckets then ((turnOf (b + n) c.nodes.toNat c.nodes.toNat).find? (fun x => decide (x ∈ l))).getD (-1) else -1
theorem turn_none {T l : List Int} (h : ∀ y ∈ T, y ∉ l) : (T.find? (fun x => decide (x ∈ l))).getD (-1) = -1 := by
  rw [List.find?_eq_none.2 (by simpa using h)]
  rfl
theorem turn_hit {T l ys : List Int} {x : Int} (hp : ys ++ [x] <+: T) (h : ∀ y ∈ ys, y ∉ l) (hx : x ∈ l) : (T.find? (fun x => decide (x ∈ l))).getD (-1) = x := by
  obtain ⟨r, rfl⟩ := hp
  rw [List.append_assoc, List.find?_append, List.find?_eq_none.2 (by simpa using h)]
  simp [hx]
theorem others_of_same {W W' : World} (h : Same W W') : KeepsOthers W W' := ⟨h.size, fun k o hk _ => (h.block k (blk_lt hk)).trans hk⟩
theorem below_of_same {W W' : World} {m : Nat} (hm : m ≤ W.heap.size) (h : Same W W') : Below m W W' := h.mono hm
theorem box_one (W : World) (v : Value) (t : TypeId) : (W.alloc (.cells #[v] t)).cell? ⟨W.heap.size, 0, none⟩ = some v ∧ (W.alloc (.cells #[v] t)).frozen? ⟨W.heap.size, 0, none⟩ = false :=
  ⟨blk_cell (heap_alloc_new _ _) 0, blk_frozen (heap_alloc_new _ _) 0⟩
theorem Cfg.may_in (c : Cfg) (n : Int) (h : c.may n = true) : 4 ≤ c.nodes ∧ c.nodes ≤ 64 ∧ 1 ≤ n ∧ n ≤ 1048576 ∧ c.buckets ≤ c.nodes := by
  rw [Cfg.may, Cfg.good] at h
  simp only [Bool.and_eq_true, decide_eq_true_eq, qgood_iff, Cfg.spans, List.all_cons, inside_iff] at h
  omega
set_option maxRecDepth 100000 in
set_option maxHeartbeats 3200000 in
theorem lowner_good (c : Cfg) (n : Int) (ao : Option Addr) (len cap : Nat) (l : List Int) (b : Int) (w : World) (hsl : Sl w 1 ao len cap (iv l)) (hm : c.may n = true) (hb0 : 0 ≤ b) (hb1 : b < c.buckets) :
    Calls Try.prog 132 #[.agg c.cells.toArray, .int .i64 n, .slice ao len cap, .int .i64 b] w fun e w' => e = .returned (.int .i64 (lowner c n l b)) ∧ Same w w' := by
  have hmay := fun w => may_any c n w
  rw [hm] at hmay
  have hin := fun x w h => lin_any ao len cap l x w h
  obtain ⟨k1, k2, k3, k4, k5⟩ := c.may_in n hm
  obtain ⟨N, hN⟩ : ∃ N : Nat, c.nodes = (N : Int) := ⟨c.nodes.toNat, by omega⟩
  have hres : lowner c n l b = ((turnOf (b + n) N N).find? (fun x => decide (x ∈ l))).getD (-1) := by rw [lowner, if_pos ⟨hm, hb0, hb1⟩, hN, Int.toNat_natCast]
  obtain ⟨R, hR⟩ : ∃ R, R = lowner c n l b := ⟨_, rfl⟩
  rw [← hR] at hres ⊢
  clear hR
  have hcs : c.cells.toArray = #[.int .i64 N, .int .i64 c.clients, .int .i64 c.window, .int .i64 c.buckets, .int .i64 c.cap, .int .i64 c.slots, .int .i64 c.requests, .int .i64 c.timeout, .int .i64 c.penalty, .int .i64 c.last] := by rw [← hN]; rfl
  rw [hcs] at hmay ⊢
  replace hmay := Lib.hid hmay
  replace hin := Lib.hid hin
  have hs : IntKind.i64.wrap (b + n) = b + n := IntWalk.i64_in _ ⟨by omega, by omega⟩
  obtain ⟨T, hT⟩ : ∃ T, T = turnOf (b + n) N N := ⟨_, rfl⟩
  rw [← hT] at hres
  have hst := fun Bs Bf n₀ w h1 h2 h3 h4 h5 => round_stops Fence.wide 8 trivial rfl (by omega) Bs Bf n₀ N (b + n) (by omega) (by omega) (by omega) w h1 h2 h3 h4 h5
  rw [← hT] at hst
  have hrd := fun f w => round_in Fence.wide 8 trivial rfl N f w
  replace hst := Lib.hid hst
  replace hrd := Lib.hid hrd
  replace hres := Lib.hid hres
  clear hN hcs hm k1 k2 k3 k4
  refine (callsIn_wide (n := 9)).1 ?_
  refine callsIn_of_wp_marks Try.func132 rfl trivial ?_ rfl
  simp only [Try.ntmps132, List.size_toArray, List.length_cons, List.length_nil, Nat.reduceAdd, Nat.reduceSub, Array.replicate_succ, Array.replicate_zero, List.push_toArray, List.append_toArray, List.nil_append, List.cons_append]
  gi_wp2
  obtain ⟨CS, hCS⟩ : ∃ CS : Array Value, CS = #[.int .i64 N, .int .i64 c.clients, .int .i64 c.window, .int .i64 c.buckets, .int .i64 c.cap, .int .i64 c.slots, .int .i64 c.requests, .int .i64 c.timeout, .int .i64 c.penalty, .int .i64 c.last] := ⟨_, rfl⟩
  have g0 : CS[0]? = some (.int .i64 N) := by rw [hCS]; rfl
  have g3 : CS[3]? = some (.int .i64 c.buckets) := by rw [hCS]; rfl
  rw [← hCS]
  rw [← hCS] at hmay
  clear hCS
  have b1 := heap_alloc_new w (.cells CS 68)
  have c1 := blk_cell b1 0
  have c3 := blk_cell b1 3
  rw [g0] at c1
  rw [g3] at c3
  have c5 := (box_one (w.alloc (.cells CS 68)) (.slice ao len cap) 70).1
  have c6 := box_one ((w.alloc (.cells CS 68)).alloc (.cells #[.slice ao len cap] 70)) (.int .i64 0) 3
  rw [World.size_alloc] at c5
  rw [World.size_alloc, World.size_alloc] at c6
  generalize hw0 : ((w.alloc (.cells CS 68)).alloc (.cells #[.slice ao len cap] 70)).alloc (.cells #[.int .i64 0] 3) = w0 at c6 ⊢
  have s1 : Same (w.alloc (.cells CS 68)) w0 := by rw [← hw0]; exact (Same.refl.alloc _).alloc _
  have s2 : Same ((w.alloc (.cells CS 68)).alloc (.cells #[.slice ao len cap] 70)) w0 := by rw [← hw0]; exact Same.refl.alloc _
  have s0 : Same w w0 := (Same.refl.alloc _).trans s1
  have z0 : w0.heap.size = w.heap.size + 3 := by rw [← hw0]; simp
  replace c1 := s1.cell c1
  replace c3 := s1.cell c3
  replace c5 := s2.cell c5
  clear hw0 s1 s2 b1
  refine ⟨trivial, (callsIn_wide.2 (hmay.out _)).mono ?_⟩
  rintro e w1 ⟨rfl, hs1⟩
  replace c1 := hs1.cell c1
  replace c3 := hs1.cell c3
  replace c5 := hs1.cell c5
  have hf6 : w1.frozen? ⟨w.heap.size + 1 + 1, 0, none⟩ = false := (hs1.frozen (show w.heap.size + 1 + 1 < w0.heap.size by omega)).trans c6.2
  replace c6 := hs1.cell c6.1
  have s01 := s0.trans hs1
  have z1 : w.heap.size + 3 ≤ w1.heap.size := by have := hs1.size; omega
  clear hs1 s0 z0
  replace s01 := Lib.hid s01
  have d1 : (b < 0) = False := by simp; omega
  have d2 : decide (c.buckets ≤ b) = false := by simp; omega
  gi_wp2
  refine ⟨trivial, (hrd.out _ _).mono ?_⟩
  rintro e w2 ⟨rfl, hw2⟩
  have r1 := heap_alloc_new w1 (.cells #[.int .i64 N] 3)
  have r2 := heap_alloc_new (w1.alloc (.cells #[.int .i64 N] 3)) (.cells #[.int .i64 (b + n)] 3)
  rw [World.size_alloc] at r2
  have s12 : Same w1 w2 := by rw [hw2]; exact (Same.refl.alloc _).alloc _
  have q1 : w2.cell? ⟨w1.heap.size, 0, none⟩ = some (.int .i64 N) := by rw [hw2]; exact (Same.refl.alloc _).cell (blk_cell r1 0)
  have q2 : w2.cell? ⟨w1.heap.size + 1, 0, none⟩ = some (.int .i64 (b + n)) := by rw [hw2]; exact blk_cell r2 0
  have z2 : w2.heap.size = w1.heap.size + 2 := by rw [hw2]; simp
  clear hw2 r1 r2
  replace c5 := s12.cell c5
  replace hf6 := (s12.frozen (show w.heap.size + 1 + 1 < w1.heap.size by omega)).trans hf6
  replace c6 := s12.cell c6
  have s02 := s01.out.trans s12
  clear s01 s12 c1 c3
  have hseq := hst.out w1.heap.size (w1.heap.size + 1) w2.heap.size w2 (by omega) (by omega) (by omega) q1 q2
  clear hst hrd q1 q2 hmay g0 g3
  gi_wp2
  refine wpIn_rangeFunc_ownF rfl (by omega) (gf := 192) (lb := #[.pointer (some ⟨w1.heap.size, 0, none⟩), .pointer (some ⟨w1.heap.size + 1, 0, none⟩)]) rfl trivial (enters_of Try.func192 (by kernel_rfl) rfl)
    hseq belowK_t (belowK_b (Nat.le_refl _)) (Below.refl _ _) (fun _ => rfl)
    (fun pre W => (∀ y ∈ pre, y ∉ l) ∧ Below w2.heap.size w2 W)
    (fun c pre W => (c = .ret ∧ ∃ ys x, pre = ys ++ [x] ∧ (∀ y ∈ ys, y ∉ l) ∧ x ∈ l ∧ W.cell? ⟨w.heap.size + 1 + 1, 0, none⟩ = some (.int .i64 x)) ∧ Below w.heap.size w W)
    (OwnFrom.and (fun _ _ _ _ hs _ _ => hs) (ownFrom_below (Nat.le_refl _) (Nat.le_refl _)))
    (fun c => OwnFrom.and (Own.from (fun s A B row hs hg hr => by obtain ⟨e1, ys, x, e2, e3, e4, e5⟩ := hs; exact ⟨e1, ys, x, e2, e3, e4, cell_kept e5 hg hr⟩) _) (ownFrom_below (Nat.le_refl _) (by omega)))
    ⟨by simp, Below.refl _ _⟩
    (fun x => { tmps := #[.agg CS, .int .i64 n, .slice ao len cap, .int .i64 b, .pointer (some ⟨w.heap.size, 0, none⟩), undef, .pointer (some ⟨w.heap.size + 1, 0, none⟩), undef, .pointer (some ⟨w.heap.size + 1 + 1, 0, none⟩), .int .i64 x, .agg CS, .int .i64 n, .bool true, .bool false, .bool false, .int .i64 b, .bool false, .bool false, .bool false, .int .i64 b, .pointer (some ⟨w.heap.size, 3, none⟩), .int .i64 c.buckets, .bool false, .bool false, .pointer (some ⟨w.heap.size, 0, none⟩), .int .i64 N, .int .i64 b, .int .i64 n, .int .i64 (b + n), .func (.func 192) #[] #[.pointer (some ⟨w1.heap.size, 0, none⟩), .pointer (some ⟨w1.heap.size + 1, 0, none⟩)], .int .i64 x, undef, undef, undef, undef], defers := [] }) ?assign ?body ?done ?stop
  case assign =>
    intro l x W K hK
    gi_wp2
    exact hK
  case body =>
    rintro lp pre x W ⟨hp, hB2⟩ _
    have hB := s02.trans hB2
    have hcr := hB2.cell (p := ⟨w.heap.size + 1 + 1, 0, none⟩) (show w.heap.size + 1 + 1 < w2.heap.size by omega) |>.trans c6
    have hfr := (hB2.frozen (p := ⟨w.heap.size + 1 + 1, 0, none⟩) (show w.heap.size + 1 + 1 < w2.heap.size by omega)).trans hf6
    have hcs := hB2.cell (p := ⟨w.heap.size + 1, 0, none⟩) (show w.heap.size + 1 < w2.heap.size by omega) |>.trans c5
    have hzW := hB2.size
    have hi := Lib.hid (hin.out x W (hsl.same hB))
    by_cases hx : x ∈ l
    · rw [decide_eq_true hx] at hi
      gi_wp2
      refine ⟨trivial, (CallsIn.inRound lp (callsIn_wide.2 hi.out)).mono ?_⟩
      rintro e W3 ⟨rfl, hs3⟩
      have hb3 := hs3.cell hcr
      have hf3 := (hs3.frozen (show w.heap.size + 1 + 1 < W.heap.size by omega)).trans hfr
      gi_wp2
      exact ⟨(others_of_same hs3).trans (KeepsOthers.setCell _ _ _), ⟨rfl, pre, x, rfl, hp, hx, World.cell?_setCell_same' _ _ _ (by rw [hb3]; rfl)⟩, (hB.trans hs3).setCell (by simp; omega) _⟩
    · rw [decide_eq_false hx] at hi
      gi_wp2
      refine ⟨trivial, (CallsIn.inRound lp (callsIn_wide.2 hi.out)).mono ?_⟩
      rintro e W3 ⟨rfl, hs3⟩
      gi_wp2
      refine ⟨others_of_same hs3, below_of_same hzW hs3, ?_, hB2.trans (below_of_same hzW hs3)⟩
      intro y hy
      rcases List.mem_append.1 hy with h | h
      · exact hp y h
      · rw [List.mem_singleton.1 h]; exact hx
  case done =>
    rintro D ys W hD rfl ⟨hne, hB2⟩ hK
    have hB := s02.trans hB2
    have hcr := hB2.cell (p := ⟨w.heap.size + 1 + 1, 0, none⟩) (show w.heap.size + 1 + 1 < w2.heap.size by omega) |>.trans c6
    have hfr := (hB2.frozen (p := ⟨w.heap.size + 1 + 1, 0, none⟩) (show w.heap.size + 1 + 1 < w2.heap.size by omega)).trans hf6
    have hRe := hres.out.trans (turn_none hne)
    gi_wp2
    have hK' := (KeepsOthers.setCell W ⟨w.heap.size + 1 + 1, 0, none⟩ (.int .i64 (-1))).same D _ hK rfl
    refine ⟨by simp, .inl ⟨_, _, rfl, run_takeDeferred hK', ?_⟩⟩
    have hc5 := cell_kept (World.cell?_setCell_same' W ⟨w.heap.size + 1 + 1, 0, none⟩ (.int .i64 (-1)) (by rw [hcr]; rfl)) (grownBy_putObj' _ D (.deferred none)) (fun r e => by cases e; exact ⟨_, hK', rfl⟩)
    refine ⟨.int .i64 (-1), ?_, by rw [hRe], Below.trans (hB.setCell (a := ⟨w.heap.size + 1 + 1, 0, none⟩) (by simp; omega) _) (belowK_b (w := w) (Nat.le_refl _) _ D _ _ (by omega) hK' rfl rfl)⟩
    simp [results, Try.f132, go_sem, hc5]
  case stop =>
    rintro D cc pre W hD hpre ⟨⟨rfl, ys, x, rfl, hne, hx, hcr⟩, hB⟩ hK
    have hRe := hres.out.trans (turn_hit hpre hne hx)
    gi_wp2
    refine ⟨by simp, .inl ⟨_, _, rfl, run_takeDeferred hK, ?_⟩⟩
    have hc5 := cell_kept hcr (grownBy_putObj' _ D (.deferred none)) (fun r e => by cases e; exact ⟨_, hK, rfl⟩)
    refine ⟨.int .i64 x, ?_, by rw [hRe], Below.trans hB (belowK_b (w := w) (Nat.le_refl _) W D _ _ (by omega) hK rfl rfl)⟩
    simp [results, Try.f132, go_sem, hc5]
set_option maxRecDepth 100000 in
set_option maxHeartbeats 400000 in
theorem lowner_any (c : Cfg) (n : Int) (ao : Option Addr) (len cap : Nat) (l : List Int) (b : Int) (w : World) (hsl : Sl w 1 ao len cap (iv l)) :
    Calls Try.prog 132 #[.agg c.cells.toArray, .int .i64 n, .slice ao len cap, .int .i64 b] w fun e w' => e = .returned (.int .i64 (lowner c n l b)) ∧ Same w w' := by
  by_cases hg : c.may n = true ∧ 0 ≤ b ∧ b < c.buckets
  · exact lowner_good c n ao len cap l b w hsl hg.1 hg.2.1 hg.2.2
  · rw [lowner, if_neg hg]
    have hinfC := Lib.hid (cfg_info c)
    have hm := fun w => may_any c n w
    have g3 : c.cells.toArray[3]? = some (.int .i64 c.buckets) := rfl
    obtain ⟨CS, hCS⟩ : ∃ CS, CS = c.cells.toArray := ⟨_, rfl⟩
    rw [← hCS] at hm hinfC g3 ⊢
    clear hCS
    replace hsl := Lib.hid hsl
    obtain ⟨B, hBe⟩ : ∃ B, B = c.buckets := ⟨_, rfl⟩
    rw [← hBe] at hg g3
    have h3 : c.may n = false ∨ (c.may n = true ∧ 0 ≤ b ∧ B ≤ b) ∨ (c.may n = true ∧ b < 0) := by
      cases hc : c.may n
      · exact .inl rfl
      · rw [hc] at hg
        by_cases h0 : 0 ≤ b
        · exact .inr (.inl ⟨rfl, h0, by by_cases h1 : b < B; exact absurd ⟨rfl, h0, h1⟩ hg; omega⟩)
        · exact .inr (.inr ⟨rfl, by omega⟩)
    clear hg hBe
    rcases h3 with hc | ⟨hc, h0, h1⟩ | ⟨hc, h0⟩
    · rw [hc] at hm
      clear hc
      replace hm := Lib.hid hm
      go_enter Try.func132, Try.ntmps132
      go_upto_region 1 with (refine box_row rfl _ _ rfl _ rfl hinfC.out ?_; intro w0 hbx hs0; have hbxl := blk_lt hbx; replace hs0 := Lib.hid hs0; replace hbx := Lib.hid hbx)
      obtain ⟨w1, hw1⟩ : ∃ w1, w1 = w0.alloc (.cells #[.slice ao len cap] 70) := ⟨_, rfl⟩
      rw [← hw1]
      obtain ⟨w2, hw2⟩ : ∃ w2, w2 = w1.alloc (.cells #[.int .i64 0] 3) := ⟨_, rfl⟩
      rw [← hw2]
      have z1 : w1.heap.size = w0.heap.size + 1 := by rw [hw1]; simp
      have z2 : w2.heap.size = w0.heap.size + 2 := by rw [hw2]; simp [z1]
      have s1 : Same w0 w1 := by rw [hw1]; exact Same.refl.alloc _
      have s2 : Same w1 w2 := by rw [hw2]; exact Same.refl.alloc _
      have c6 := box_one w1 (.int .i64 0) 3
      rw [← hw2, z1] at c6
      have bx2 := ((s1.trans s2).block _ hbxl).trans hbx.out
      have s02 := hs0.out.trans (s1.trans s2)
      have zz := hs0.out.size
      clear s1 s2 hw2 hw1 hbx hs0
      replace bx2 := Lib.hid bx2
      go_wp2_with (refine load_row rfl _ _ rfl w.heap.size rfl _ _ _ _ bx2.out Try.underlying68 rfl hinfC.out ?_)
      refine (hm.out _).mono ?_
      rintro e w3 ⟨rfl, hs3⟩
      have c63 := hs3.cell c6.1
      have hf6 := (hs3.frozen (show w0.heap.size + 1 < w2.heap.size by omega)).trans c6.2
      have s3 := s02.trans hs3
      have c33 := hs3.cell ((blk_cell bx2.out 3).trans g3)
      clear hs3 c6
      go_wp2
      have hq := s3.setCell (a := ⟨w0.heap.size + 1, 0, none⟩) (by simp; omega) (.int .i64 (-1))
      have hc7 := World.cell?_setCell_same' w3 ⟨w0.heap.size + 1, 0, none⟩ (.int .i64 (-1)) (by rw [c63]; rfl)
      refine bodyPost_ret (v := .int .i64 (-1)) (by simp [results, Try.f132, go_sem, hc7]) rfl ?_
      exact ⟨rfl, hq⟩
    · rw [hc] at hm
      have d1 : (b < 0) = False := by simp; omega
      have d2 : decide (B ≤ b) = true := by simp; omega
      clear hc h0 h1
      replace hm := Lib.hid hm
      go_enter Try.func132, Try.ntmps132
      go_upto_region 1 with (refine box_row rfl _ _ rfl _ rfl hinfC.out ?_; intro w0 hbx hs0; have hbxl := blk_lt hbx; replace hs0 := Lib.hid hs0; replace hbx := Lib.hid hbx)
      obtain ⟨w1, hw1⟩ : ∃ w1, w1 = w0.alloc (.cells #[.slice ao len cap] 70) := ⟨_, rfl⟩
      rw [← hw1]
      obtain ⟨w2, hw2⟩ : ∃ w2, w2 = w1.alloc (.cells #[.int .i64 0] 3) := ⟨_, rfl⟩
      rw [← hw2]
      have z1 : w1.heap.size = w0.heap.size + 1 := by rw [hw1]; simp
      have z2 : w2.heap.size = w0.heap.size + 2 := by rw [hw2]; simp [z1]
      have s1 : Same w0 w1 := by rw [hw1]; exact Same.refl.alloc _
      have s2 : Same w1 w2 := by rw [hw2]; exact Same.refl.alloc _
      have c6 := box_one w1 (.int .i64 0) 3
      rw [← hw2, z1] at c6
      have bx2 := ((s1.trans s2).block _ hbxl).trans hbx.out
      have s02 := hs0.out.trans (s1.trans s2)
      have zz := hs0.out.size
      clear s1 s2 hw2 hw1 hbx hs0
      replace bx2 := Lib.hid bx2
      go_wp2_with (refine load_row rfl _ _ rfl w.heap.size rfl _ _ _ _ bx2.out Try.underlying68 rfl hinfC.out ?_)
      refine (hm.out _).mono ?_
      rintro e w3 ⟨rfl, hs3⟩
      have c63 := hs3.cell c6.1
      have hf6 := (hs3.frozen (show w0.heap.size + 1 < w2.heap.size by omega)).trans c6.2
      have s3 := s02.trans hs3
      have c33 := hs3.cell ((blk_cell bx2.out 3).trans g3)
      clear hs3 c6
      go_wp2
      have hq := s3.setCell (a := ⟨w0.heap.size + 1, 0, none⟩) (by simp; omega) (.int .i64 (-1))
      have hc7 := World.cell?_setCell_same' w3 ⟨w0.heap.size + 1, 0, none⟩ (.int .i64 (-1)) (by rw [c63]; rfl)
      refine bodyPost_ret (v := .int .i64 (-1)) (by simp [results, Try.f132, go_sem, hc7]) rfl ?_
      exact ⟨rfl, hq⟩
    · rw [hc] at hm
      have d1 : (b < 0) = True := by simp; omega
      clear hc h0
      replace hm := Lib.hid hm
      go_enter Try.func132, Try.ntmps132
      go_upto_region 1 with (refine box_row rfl _ _ rfl _ rfl hinfC.out ?_; intro w0 hbx hs0; have hbxl := blk_lt hbx; replace hs0 := Lib.hid hs0; replace hbx := Lib.hid hbx)
      obtain ⟨w1, hw1⟩ : ∃ w1, w1 = w0.alloc (.cells #[.slice ao len cap] 70) := ⟨_, rfl⟩
      rw [← hw1]
      obtain ⟨w2, hw2⟩ : ∃ w2, w2 = w1.alloc (.cells #[.int .i64 0] 3) := ⟨_, rfl⟩
      rw [← hw2]
      have z1 : w1.heap.size = w0.heap.size + 1 := by rw [hw1]; simp
      have z2 : w2.heap.size = w0.heap.size + 2 := by rw [hw2]; simp [z1]
      have s1 : Same w0 w1 := by rw [hw1]; exact Same.refl.alloc _
      have s2 : Same w1 w2 := by rw [hw2]; exact Same.refl.alloc _
      have c6 := box_one w1 (.int .i64 0) 3
      rw [← hw2, z1] at c6
      have bx2 := ((s1.trans s2).block _ hbxl).trans hbx.out
      have s02 := hs0.out.trans (s1.trans s2)
      have zz := hs0.out.size
      clear s1 s2 hw2 hw1 hbx hs0
      replace bx2 := Lib.hid bx2
      go_wp2_with (refine load_row rfl _ _ rfl w.heap.size rfl _ _ _ _ bx2.out Try.underlying68 rfl hinfC.out ?_)
      refine (hm.out _).mono ?_
      rintro e w3 ⟨rfl, hs3⟩
      have c63 := hs3.cell c6.1
      have hf6 := (hs3.frozen (show w0.heap.size + 1 < w2.heap.size by omega)).trans c6.2
      have s3 := s02.trans hs3
      have c33 := hs3.cell ((blk_cell bx2.out 3).trans g3)
      clear hs3 c6
      go_wp2
      have hq := s3.setCell (a := ⟨w0.heap.size + 1, 0, none⟩) (by simp; omega) (.int .i64 (-1))
      have hc7 := World.cell?_setCell_same' w3 ⟨w0.heap.size + 1, 0, none⟩ (.int .i64 (-1)) (by rw [c63]; rfl)
      refine bodyPost_ret (v := .int .i64 (-1)) (by simp [results, Try.f132, go_sem, hc7]) rfl ?_
      exact ⟨rfl, hq⟩
end Go.Proofs.Ytmacgmmjgdmleaa
