/-
  A window behind numbers: the law's marked.
-/
import Derived.Test.YtkhloanpdehegaaDoorWinL
namespace Go.Proofs.YtkhloanpdehegaaDoor
open Go Go.RowKit
set_option linter.unusedSimpArgs false
set_option linter.unusedVariables false

theorem Win.all_step (v : Win) (l : List Int) (k : Nat) (h : k < l.length) : v.all (l.drop k) = if v.ask 64 (l.getD k 0) = 0 then (v.next (l.getD k 0)).all (l.drop (k + 1)) else (v, false) := by
  have e : l.drop k = l.getD k 0 :: l.drop (k + 1) := by
    rw [List.drop_eq_getElem_cons h]
    congr 1
    simp [List.getD, h]
  rw [e]
  rfl
set_option maxRecDepth 100000 in
set_option maxHeartbeats 3200000 in
theorem marked_any (b : Int) (m : Nat) (ao : Option Addr) (n cap : Nat) (l : List Int) (w : World) (hm : m < 18446744073709551616) (hsl : Sl w 1 ao n cap (iv l)) (hy : ∀ x ∈ l, x ≤ 9223372036854775807) (hT : Tab w) :
    Calls Tryd.prog 22 #[.agg #[.int .i64 b, .int .u64 m], .slice ao n cap] w fun e w' => e = .returned (.tuple #[.agg #[.int .i64 (Win.all ⟨b, m⟩ l).1.base, .int .u64 ((Win.all ⟨b, m⟩ l).1.bits : Nat)], .bool (Win.all ⟨b, m⟩ l).2]) ∧ Same w w' := by
  have hll : l.length = n := by have := hsl.len; rw [iv_length] at this; omega
  have hcap := hsl.cap
  have hmost := hsl.most
  unfold maxLen at hmost
  have hstep := fun v k (h : k < n) => Win.all_step v l k (by omega)
  have hyk : ∀ k, k < n → l.getD k 0 ≤ 9223372036854775807 := by
    intro k hk
    refine hy _ ?_
    simp only [List.getD, List.getElem?_eq_getElem (show k < l.length by omega), Option.getD_some]
    exact List.getElem_mem _
  have hmk := fun (v : Win) (hv : v.ok) k w hk h => wmark_any v.base v.bits k w hv hk h
  obtain ⟨RS, hRS⟩ : ∃ RS, RS = Win.all ⟨b, m⟩ l := ⟨_, rfl⟩
  rw [← hRS]
  have hdn : ∀ v : Win, v.all (l.drop n) = (v, true) := by intro v; rw [List.drop_of_length_le (by omega)]; rfl
  have hinf := Lib.hid hinfW
  have h0 : RS = Win.all ⟨b, m⟩ (l.drop 0) := hRS
  clear hRS
  replace h0 := Lib.hid h0
  replace hstep := Lib.hid hstep
  replace hyk := Lib.hid hyk
  replace hmk := Lib.hid hmk
  replace hdn := Lib.hid hdn
  replace hsl := Lib.hid hsl
  replace hT := Lib.hid hT
  go_enter Tryd.func22, Tryd.ntmps22
  go_upto_region 1 with fail
  obtain ⟨W, hW⟩ : ∃ W, W = (w.alloc (.cells #[.int .i64 b, .int .u64 m] 38)).alloc (.cells #[.int .i64 0, .int .u64 0] 38) := ⟨_, rfl⟩
  have r0 : W.heap[w.heap.size]? = some (.cells #[.int .i64 b, .int .u64 m] 38 (0, 0)) := by rw [hW]; exact (Same.refl.alloc (.cells #[.int .i64 0, .int .u64 0] 38)).row (heap_alloc_new w (.cells #[.int .i64 b, .int .u64 m] 38))
  have hz : W.heap[w.heap.size + 1]? = some (.cells #[.int .i64 0, .int .u64 0] 38 (0, 0)) := by have := heap_alloc_new (w.alloc (.cells #[.int .i64 b, .int .u64 m] 38)) (.cells #[.int .i64 0, .int .u64 0] 38); rw [World.size_alloc] at this; rw [hW]; exact this
  have s1 : Same w W := by rw [hW]; exact (Same.refl.alloc _).alloc _
  rw [← hW]
  clear hW
  replace r0 := Lib.hid r0
  replace hz := Lib.hid hz
  replace s1 := Lib.hid s1
  go_wp2
  go_loopw [12] (fun i wr => ∃ (k : Nat) (v : Win), k ≤ n ∧ i = .int .i64 k ∧ v.ok ∧ RS = v.all (l.drop k) ∧ wr.heap[w.heap.size]? = some (.cells #[.int .i64 v.base, .int .u64 (v.bits : Nat)] 38 (0, 0)) ∧ wr.heap[w.heap.size + 1]? = some (.cells #[.int .i64 0, .int .u64 0] 38 (0, 0)) ∧ Same w wr) (fun i _ => n - (intOf i).toNat)
  case atStart => exact ⟨0, ⟨b, m⟩, by omega, rfl, hm, h0.out, r0.out, hz.out, s1.out⟩
  case round =>
    obtain ⟨k, ⟨vb, vm⟩, hk, rfl, hv, hRS, hr, hz', hs⟩ := hrel
    replace hr : wr.heap[w.heap.size]? = some (.cells #[.int .i64 vb, .int .u64 (vm : Nat)] 38 (0, 0)) := hr
    clear r0 hz s1
    have hrl := blk_lt hr
    have hzl := blk_lt hz'
    replace hr := Lib.hid hr
    replace hz' := Lib.hid hz'
    by_cases hlt : k < n
    · obtain ⟨bk, off, rfl, _, hcell⟩ := hsl.out.at (by intro h2; rw [iv, List.map_eq_nil_iff] at h2; rw [h2] at hll; simp at hll; omega)
      have cc := hs.cell (hcell k _ (iv_get (by omega)))
      have hx : l[k]'(by omega) = l.getD k 0 := by simp [List.getD, show k < l.length by omega]
      rw [hx] at cc
      have hst := hstep.out ⟨vb, vm⟩ k hlt
      have hyx := hyk.out k hlt
      obtain ⟨x, hxe⟩ : ∃ x, x = l.getD k 0 := ⟨_, rfl⟩
      rw [← hxe] at cc hst hyx
      rw [← hRS] at hst
      have q0 : 0 ≤ (k : Int) := by omega
      have q1 : (k : Int) < (n : Int) := by omega
      have hc := fun w h => hmk.out ⟨vb, vm⟩ hv x w hyx h
      have hc' : ∀ w, Tab w → Calls Tryd.prog 23 #[.agg #[.int .i64 vb, .int .u64 (vm : Nat)], .int .i64 x] w fun e w' => e = .returned (.tuple #[.agg #[.int .i64 (Win.mark ⟨vb, vm⟩ x).base, .int .u64 ((Win.mark ⟨vb, vm⟩ x).bits : Nat)], .int .i64 (Win.ask ⟨vb, vm⟩ 64 x)]) ∧ Same w w' := hc
      have hnx := fun h => Win.next_spec ⟨vb, vm⟩ hv x h
      clear hcell hx hxe hRS hc
      replace hs := Lib.hid hs
      by_cases ha : Win.ask ⟨vb, vm⟩ 64 x = 0
      · have hmn : Win.mark ⟨vb, vm⟩ x = Win.next ⟨vb, vm⟩ x := by rw [Win.mark, if_pos ha]
        have hok := (hnx ha).1
        rw [if_pos ha] at hst
        rw [ha, hmn] at hc'
        obtain ⟨nb, hnb⟩ : ∃ y, y = (Win.next ⟨vb, vm⟩ x).base := ⟨_, rfl⟩
        obtain ⟨nm, hnm⟩ : ∃ y, y = (Win.next ⟨vb, vm⟩ x).bits := ⟨_, rfl⟩
        have hnn : Win.next ⟨vb, vm⟩ x = ⟨nb, nm⟩ := by rw [hnb, hnm]
        rw [← hnb, ← hnm] at hc'
        rw [hnn] at hst hok
        clear hnx ha hmn hnb hnm hnn
        replace hst := Lib.hid hst
        replace hok := Lib.hid hok
        replace hc' := Lib.hid hc'
        go_wp2_with (refine load_row rfl _ _ rfl w.heap.size rfl _ _ _ _ hr.out Tryd.underlying38 rfl hinf.out ?_)
        refine (hc'.out _ (hT.out.same hs.out)).mono ?_
        rintro e w3 ⟨rfl, hs3⟩
        clear hc'
        go_upto_region 5 with fail
        have rv := heap_alloc_new w3 (.cells #[.int .i64 nb, .int .u64 nm] 38)
        obtain ⟨w4, hw4⟩ : ∃ y, y = w3.alloc (.cells #[.int .i64 nb, .int .u64 nm] 38) := ⟨_, rfl⟩
        have s4 : Same wr w4 := by rw [hw4]; exact hs3.alloc _
        have z3 := hs3.size
        rw [← hw4] at rv ⊢
        clear hw4 hs3
        replace rv := Lib.hid rv
        replace hr := Lib.hid (s4.row hr.out)
        replace hz' := Lib.hid (s4.row hz'.out)
        replace hs := Lib.hid (hs.out.trans s4)
        clear s4
        go_wp2_with (first | (refine load_row rfl _ _ rfl w3.heap.size rfl _ _ _ _ rv.out Tryd.underlying38 rfl hinf.out ?_) | (refine store_row rfl _ _ _ rfl w.heap.size #[.int .i64 nb, .int .u64 nm] rfl rfl _ _ hr.out hinf.out rfl (by simp [Value.oneCell']) ?_; intro w9 hb9 hk9; replace hb9 := Lib.hid hb9; replace hk9 := Lib.hid hk9))
        go_roundw
        case rel => exact ⟨k + 1, ⟨nb, nm⟩, by omega, by go_num, hok.out, hst.out, hb9.out, (hk9.out.block _ (blk_lt hz'.out) (by omega)).trans hz'.out, hs.out.keep hk9.out (fun x hx hv => by omega)⟩
        case measure => simp [intOf]; omega
      · rw [if_neg ha] at hst
        obtain ⟨E, hE⟩ : ∃ E, E = Win.ask ⟨vb, vm⟩ 64 x := ⟨_, rfl⟩
        obtain ⟨nb, hnb⟩ : ∃ y, y = (Win.mark ⟨vb, vm⟩ x).base := ⟨_, rfl⟩
        obtain ⟨nm, hnm⟩ : ∃ y, y = (Win.mark ⟨vb, vm⟩ x).bits := ⟨_, rfl⟩
        rw [← hE, ← hnb, ← hnm] at hc'
        rw [← hE] at ha
        have hne : (E != 0) = true := by simpa using ha
        clear hnx ha hE hnb hnm
        replace hst := Lib.hid hst
        replace hc' := Lib.hid hc'
        go_wp2_with (refine load_row rfl _ _ rfl w.heap.size rfl _ _ _ _ hr.out Tryd.underlying38 rfl hinf.out ?_)
        refine (hc'.out _ (hT.out.same hs.out)).mono ?_
        rintro e w3 ⟨rfl, hs3⟩
        clear hc'
        go_upto_region 5 with fail
        obtain ⟨w4, hw4⟩ : ∃ y, y = w3.alloc (.cells #[.int .i64 nb, .int .u64 nm] 38) := ⟨_, rfl⟩
        have s4 : Same wr w4 := by rw [hw4]; exact hs3.alloc _
        have z3 := hs3.size
        rw [← hw4]
        clear hw4 hs3
        replace hr := Lib.hid (s4.row hr.out)
        replace hz' := Lib.hid (s4.row hz'.out)
        replace hs := Lib.hid (hs.out.trans s4)
        clear s4
        go_wp2_with (first | (refine load_row rfl _ _ rfl w.heap.size rfl _ _ _ _ hr.out Tryd.underlying38 rfl hinf.out ?_) | (refine store_row rfl _ _ _ rfl (w.heap.size + 1) #[.int .i64 vb, .int .u64 vm] rfl rfl _ _ hz'.out hinf.out rfl (by simp [Value.oneCell']) ?_; intro w9 hb9 hk9; replace hb9 := Lib.hid hb9; replace hk9 := Lib.hid hk9))
        refine bodyPost_ret (v := .tuple #[.agg #[.int .i64 vb, .int .u64 vm], .bool false]) (results_row2 (p := 4) (q := 5) (ty := 38) rfl _ _ (w.heap.size + 1) _ _ _ _ _ rfl rfl hb9.out Tryd.underlying38 rfl hinf.out) rfl ?_
        exact ⟨by rw [hst.out], hs.out.keep hk9.out (fun x hx hv => by omega)⟩
    · obtain rfl : k = n := by omega
      have hd := hdn.out ⟨vb, vm⟩
      rw [← hRS] at hd
      clear hRS
      replace hd := Lib.hid hd
      replace hs := Lib.hid hs
      go_wp2_with (first | (refine load_row rfl _ _ rfl w.heap.size rfl _ _ _ _ hr.out Tryd.underlying38 rfl hinf.out ?_) | (refine store_row rfl _ _ _ rfl (w.heap.size + 1) #[.int .i64 vb, .int .u64 vm] rfl rfl _ _ hz'.out hinf.out rfl (by simp [Value.oneCell']) ?_; intro w9 hb9 hk9; replace hb9 := Lib.hid hb9; replace hk9 := Lib.hid hk9))
      refine bodyPost_ret (v := .tuple #[.agg #[.int .i64 vb, .int .u64 vm], .bool true]) (results_row2 (p := 4) (q := 5) (ty := 38) rfl _ _ (w.heap.size + 1) _ _ _ _ _ rfl rfl hb9.out Tryd.underlying38 rfl hinf.out) rfl ?_
      exact ⟨by rw [hd.out], hs.out.keep hk9.out (fun x hx hv => by omega)⟩
end Go.Proofs.YtkhloanpdehegaaDoor
