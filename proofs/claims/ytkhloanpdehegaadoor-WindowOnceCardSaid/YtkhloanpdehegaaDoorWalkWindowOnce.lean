/-
  The walk of the law WindowOnce: what was marked is told as delivered, and refused, from then on; nothing else is; so many more were delivered.
-/
-- @law rep win, ints, int
import Derived.Test.YtkhloanpdehegaaDoorWinO
import Derived.Test.YtkhloanpdehegaaDoorWinD
namespace Go.Proofs.YtkhloanpdehegaaDoor
open Go Go.RowKit
set_option linter.unusedSimpArgs false
set_option linter.unusedVariables false

section
variable {P : Program} {ops : Array Oper} {rest : List Oper} {o : Oper} {a : Act} {Q : Exit → Act → World → Prop}
theorem alloc_newW {W : World} (hg : Region.wanted o (yielded ops a.tmps) = true) (ty : TypeId) (_ho : o.op = .alloc ty) (cells : Array Value) (hr : (execOp a.eval o).run P W = .ok (.value (.pointer (some ⟨W.heap.size, 0, none⟩))) (W.alloc (.cells cells ty)))
    (h : ∀ w', w'.heap[W.heap.size]? = some (.cells cells ty (0, 0)) → Same W w' → wpList P ops Q rest (a.put o.dst (.pointer (some ⟨W.heap.size, 0, none⟩))) w') : wpList P ops Q (o :: rest) a W := by
  refine wpL hg fun K hK => ?_
  unfold Oper.wp
  rw [hr]
  exact hK _ _ (h _ (heap_alloc_new _ _) (Same.alloc Same.refl _))
end
/-- A new block that holds a window of nothing. -/
def isNewW (B : Nat) : Value → World → Prop := fun v w => ∃ g, v = .pointer (some ⟨g, 0, none⟩) ∧ B ≤ g ∧ w.heap[g]? = some (.cells #[.int .i64 0, .int .u64 0] 38 (0, 0))
theorem isNewW_stable (B : Nat) : Stable Same (isNewW B) := fun _ _ _ k ⟨g, h1, h2, h3⟩ => ⟨g, h1, h2, k.row h3⟩
theorem i64_le {n : Int} (h : (Lit.int .i64 n).wf = true) : -9223372036854775808 ≤ n ∧ n ≤ 9223372036854775807 := by
  simp [Lit.wf, IntKind.min, IntKind.max, IntKind.signed, IntKind.bits] at h
  omega
theorem count_in (v : Win) : 0 ≤ v.count ∧ v.count ≤ 2199023255552 := by
  unfold Win.count
  split
  · rename_i h
    have := Win.good_in h
    have := mlist_le v.bits
    omega
  · omega
theorem next_done (v : Win) (hv : v.ok) (x : Int) (h : v.ask 64 x = 0) : (v.next x).done x = true := by
  rw [v.mark_done hv x h x]
  simp
theorem next_good (v : Win) (hv : v.ok) (x : Int) (h : v.ask 64 x = 0) : (v.next x).good = true := by
  obtain ⟨a, b, _⟩ := v.next_spec hv x h
  exact ((v.next x).good_iff a).2 b
set_option maxRecDepth 100000 in
set_option maxHeartbeats 12800000 in
theorem walk_WindowOnce (w : World) (a : Win) (ha : (Lit.int .i64 a.base).wf = true ∧ a.bits < 18446744073709551616) (ao : Option Addr) (n cap : Nat) (l : List Int) (hsl : Sl w 1 ao n cap (iv l)) (hy : ∀ x ∈ l, (Lit.int .i64 x).wf = true) (num : Int) (hnum : (Lit.int .i64 num).wf = true) (hT : Tab w) :
    Calls Tryd.prog 8 #[.agg #[.int .i64 a.base, .int .u64 (a.bits : Nat)], .slice ao n cap, .int .i64 num] w fun e w' => e = .returned (.bool true) ∧ Same w w' := by
  obtain ⟨b, m⟩ := a
  obtain ⟨_, hm⟩ := ha
  simp only at hm ⊢
  have hnum2 := (i64_le hnum).2
  clear hnum
  have hll : l.length = n := by have := hsl.len; rw [iv_length] at this; omega
  have hcap := hsl.cap
  have hyk : ∀ k, k < n → l.getD k 0 ≤ 9223372036854775807 := by
    intro k hk
    refine (i64_le (hy _ ?_)).2
    simp only [List.getD, List.getElem?_eq_getElem (show k < l.length by omega), Option.getD_some]
    exact List.getElem_mem _
  clear hy
  have hl := Lib.hid (fun w h => lives9 w h)
  have hinf := Lib.hid hinfW
  replace hT := Lib.hid hT
  replace hyk := Lib.hid hyk
  by_cases hbig : 200 < n
  · have d1 : Decidable.decide (200 < (n : Int)) = true := decide_eq_true (by omega)
    replace hsl := Lib.hid hsl
    go_enter Tryd.func8, Tryd.ntmps8
    go_upto_region 1 with fail
    obtain ⟨w0, hw0⟩ : ∃ x, x = w.alloc (.cells #[.int .i64 b, .int .u64 m] 38) := ⟨_, rfl⟩
    have s0 : Same w w0 := by rw [hw0]; exact Same.refl.alloc _
    rw [← hw0]
    clear hw0
    replace s0 := Lib.hid s0
    go_wp2_with fail
    refine (hl.out _ (hT.out.same s0.out)).mono ?_
    rintro e w6 ⟨rfl, hs6⟩
    replace s0 := Lib.hid (s0.out.trans hs6)
    clear hs6
    go_wp2
    go_ret
    exact ⟨rfl, s0.out⟩
  · have d1 : Decidable.decide (200 < (n : Int)) = false := decide_eq_false (by omega)
    have hdone := fun (v : Win) (hv : v.ok) k (hk : k ≤ 9223372036854775807) w => wdone_any v.base v.bits k w hv hk
    have hgood := fun (v : Win) (hv : v.ok) w => wgood_any v.base v.bits w hv
    have hcount := fun (v : Win) (hv : v.ok) w h => wcount_any v.base v.bits w hv h
    have hmk := fun (v : Win) (hv : v.ok) k w hk h => wmark_any v.base v.bits k w hv hk h
    have hd0 := fun w => wdone_any b m num w hm hnum2
    have hc0 := fun w h => wcount_any b m w hm h
    obtain ⟨Cw, hCw⟩ : ∃ y, y = Win.count ⟨b, m⟩ := ⟨_, rfl⟩
    have hCwb := count_in ⟨b, m⟩
    rw [← hCw] at hc0 hCwb
    obtain ⟨D0, hD0⟩ : ∃ y, y = Win.done ⟨b, m⟩ num := ⟨_, rfl⟩
    rw [← hD0] at hd0
    replace hD0 := Lib.hid hD0
    replace hCw := Lib.hid hCw
    replace hdone := Lib.hid hdone
    replace hgood := Lib.hid hgood
    replace hcount := Lib.hid hcount
    replace hmk := Lib.hid hmk
    replace hd0 := Lib.hid hd0
    replace hc0 := Lib.hid hc0
    replace hsl := Lib.hid hsl
    go_enter Tryd.func8, Tryd.ntmps8
    go_upto_region 1 with fail
    obtain ⟨w0, hnw⟩ : ∃ y, y = w.alloc (.cells #[.int .i64 b, .int .u64 (m : Nat)] 38) := ⟨_, rfl⟩
    have sN : Same w w0 := by rw [hnw]; exact Same.refl.alloc _
    rw [← hnw]
    have rN : w0.heap[w.heap.size]? = some (.cells #[.int .i64 b, .int .u64 (m : Nat)] 38 (0, 0)) := by rw [hnw]; exact heap_alloc_new _ _
    clear hnw
    have rB := Lib.hid rN
    have s0 := Lib.hid sN
    clear rN sN
    go_upto_region 3 with fail
    refine wp_region_tails (by kernel_rfl) [(20, 0), (21, 1), (22, 2), (23, 3), (7, 4)] Same (Same _) [isV (.agg #[.int .i64 b, .int .u64 m]), isV (.agg #[.int .i64 b, .int .u64 m]), isV (.int .i64 num), isV (.bool D0), isNewW w0.heap.size] Same.refl.drew (fun _ _ h k => h.trans k) (by simp [isV_stable, isB_stable, isAny_stable, isNewW_stable]) (by decide) (l := [_, _, _, _, _]) rfl (by decide) (by kernel_rfl) ?_ ?_
    · refine ⟨?_, ?_, ?_, ?_, ?_, trivial⟩
      all_goals (intro u wx hI hp; simp only [mkAct, List.foldl_cons, List.foldl_nil, List.setIfInBounds_toArray, List.set_cons_succ, List.set_cons_zero])
      · -- operation 0
        go_wp2_with (refine load_row rfl _ _ rfl w.heap.size rfl _ _ _ _ (hI.row rB.out) Tryd.underlying38 rfl hinf.out ?_)
        refine stq_v rfl Same.refl ?_
        first | (simp only [mkAct, List.foldl_cons, List.foldl_nil, List.setIfInBounds_toArray, List.set_cons_succ, List.set_cons_zero, upd, reduceIte, Nat.reduceEqDiff, Nat.reduceAdd, str]; done) | (simp [mkAct, upd, str, *]; done)
      · -- operation 1
        go_wp2_with (refine load_row rfl _ _ rfl w.heap.size rfl _ _ _ _ (hI.row rB.out) Tryd.underlying38 rfl hinf.out ?_)
        refine stq_v rfl Same.refl ?_
        first | (simp only [mkAct, List.foldl_cons, List.foldl_nil, List.setIfInBounds_toArray, List.set_cons_succ, List.set_cons_zero, upd, reduceIte, Nat.reduceEqDiff, Nat.reduceAdd, str]; done) | (simp [mkAct, upd, str, *]; done)
      · -- operation 2
        go_wp2
        refine stq_v rfl Same.refl ?_
        first | (simp only [mkAct, List.foldl_cons, List.foldl_nil, List.setIfInBounds_toArray, List.set_cons_succ, List.set_cons_zero, upd, reduceIte, Nat.reduceEqDiff, Nat.reduceAdd, str]; done) | (simp [mkAct, upd, str, *]; done)
      · -- operation 3
        obtain ⟨f1, f2, -⟩ := hp
        replace f1 : u 1 = (.agg #[.int .i64 b, .int .u64 m]) := f1
        replace f2 : u 2 = (.int .i64 num) := f2
        try simp only [f1, f2, str]
        go_wp2_with fail
        refine (hd0.out _).mono ?_
        rintro e w1 ⟨rfl, hs'⟩
        go_wp2
        refine stq_v rfl hs' ?_
        first | (simp only [mkAct, List.foldl_cons, List.foldl_nil, List.setIfInBounds_toArray, List.set_cons_succ, List.set_cons_zero, upd, reduceIte, Nat.reduceEqDiff, Nat.reduceAdd, f1, f2, str]; done) | (simp [mkAct, upd, f1, f2, str, *]; done)
      · -- operation 4
        go_wp2_with (refine alloc_newW rfl 38 rfl #[.int .i64 0, .int .u64 0] (by kernel_rfl) ?_; intro w5 hb5 hs5)
        refine stq_x (.pointer (some ⟨wx.heap.size, 0, none⟩)) rfl ⟨_, rfl, hI.size, hb5⟩ hs5 ?_
        first | (simp only [mkAct, List.foldl_cons, List.foldl_nil, List.setIfInBounds_toArray, List.set_cons_succ, List.set_cons_zero, upd, reduceIte, Nat.reduceEqDiff, Nat.reduceAdd, str]; done) | (simp [mkAct, upd, str, *]; done)
    · intro u wx hI hR
      obtain ⟨r0, r1, r2, r3, r4, -⟩ := hR
      replace r0 : u 0 = (.agg #[.int .i64 b, .int .u64 m]) := r0
      replace r1 : u 1 = (.agg #[.int .i64 b, .int .u64 m]) := r1
      replace r2 : u 2 = (.int .i64 num) := r2
      replace r3 : u 3 = (.bool D0) := r3
      simp only [mkAct, List.foldl_cons, List.foldl_nil, List.setIfInBounds_toArray, List.set_cons_succ, List.set_cons_zero]
      try simp only [str, r0, r1, r2, r3]
      obtain ⟨g, e4, hg, hgb⟩ := r4
      replace e4 : u 4 = .pointer (some ⟨g, 0, none⟩) := e4
      simp only [e4]
      clear e4
      replace hgb := Lib.hid hgb
      have hw0z := blk_lt rB.out
      have hz0 := s0.out.size
      replace rB := Lib.hid (hI.row rB.out)
      replace s0 := Lib.hid (s0.out.trans hI)
      clear hI
      go_wp2_with (refine store_row rfl _ _ _ rfl g #[.int .i64 b, .int .u64 m] rfl rfl _ _ hgb.out hinf.out rfl (by simp [Value.oneCell']) ?_; intro w9 hb9 hk9; replace hb9 := Lib.hid hb9; replace hk9 := Lib.hid hk9)
      go_loopw [8, 9, 26] (fun wa cn i wr => ∃ (j c : Nat) (v : Win), j ≤ n ∧ i = .int .i64 j ∧ cn = .int .i64 c ∧ c ≤ j ∧ wa = .bool (v.done num) ∧ v.ok ∧ v.count = Cw + (c : Int) ∧ wr.heap[g]? = some (.cells #[.int .i64 v.base, .int .u64 (v.bits : Nat)] 38 (0, 0)) ∧ wr.heap[w.heap.size]? = some (.cells #[.int .i64 b, .int .u64 (m : Nat)] 38 (0, 0)) ∧ Same w wr) (fun _ _ i _ => n - (intOf i).toNat)
      case atStart => exact ⟨0, 0, ⟨b, m⟩, by omega, rfl, rfl, Nat.le_refl _, by rw [hD0.out], hm, by rw [hCw.out]; simp, hb9.out, (hk9.out.block _ (blk_lt rB.out) (by omega)).trans rB.out, s0.out.keep hk9.out (fun x hx hv => by omega)⟩
      case round =>
        obtain ⟨j, c, ⟨vb, vm⟩, hj, rfl, rfl, hcj, rfl, hv, hct, hrg, hr0, hs⟩ := hrel
        replace hrg : wr.heap[g]? = some (.cells #[.int .i64 vb, .int .u64 (vm : Nat)] 38 (0, 0)) := hrg
        clear rB s0 hgb hb9 hk9
        replace hrg := Lib.hid hrg
        replace hr0 := Lib.hid hr0
        replace hct := Lib.hid hct
        by_cases hlt : j < n
        · obtain ⟨bk, off, rfl, _, hcell⟩ := hsl.out.at (by intro h2; rw [iv, List.map_eq_nil_iff] at h2; rw [h2] at hll; simp at hll; omega)
          have cc := hs.cell (hcell j _ (iv_get (by omega)))
          have hx : l[j]'(by omega) = l.getD j 0 := by simp [List.getD, show j < l.length by omega]
          rw [hx] at cc
          have hyx := hyk.out j hlt
          obtain ⟨x, hxe⟩ : ∃ x, x = l.getD j 0 := ⟨_, rfl⟩
          rw [← hxe] at cc hyx
          have q0 : 0 ≤ (j : Int) := by omega
          have q1 : (j : Int) < (n : Int) := by omega
          have hc1 : ∀ w, Tab w → Calls Tryd.prog 23 #[.agg #[.int .i64 vb, .int .u64 (vm : Nat)], .int .i64 x] w fun e w' => e = .returned (.tuple #[.agg #[.int .i64 (Win.mark ⟨vb, vm⟩ x).base, .int .u64 ((Win.mark ⟨vb, vm⟩ x).bits : Nat)], .int .i64 (Win.ask ⟨vb, vm⟩ 64 x)]) ∧ Same w w' := fun w h => hmk.out ⟨vb, vm⟩ hv x w hyx h
          clear hcell hx hxe
          replace hs := Lib.hid hs
          by_cases hask : Win.ask ⟨vb, vm⟩ 64 x = 0
          · have hmn : Win.mark ⟨vb, vm⟩ x = Win.next ⟨vb, vm⟩ x := by rw [Win.mark, if_pos hask]
            obtain ⟨hok, _, _⟩ := Win.next_spec ⟨vb, vm⟩ hv x hask
            have f1 := Win.ask_done ⟨vb, vm⟩ x hask
            have f2 := next_done ⟨vb, vm⟩ hv x hask
            have f3 := next_good ⟨vb, vm⟩ hv x hask
            have f4 := Win.ask_again ⟨vb, vm⟩ hv x hask
            have f5 := Win.mark_done ⟨vb, vm⟩ hv x hask num
            have f6 := Win.next_count ⟨vb, vm⟩ hv x hask
            rw [hct.out] at f6
            rw [hask, hmn] at hc1
            have k1 : ∀ w, Calls Tryd.prog 28 #[.agg #[.int .i64 vb, .int .u64 (vm : Nat)], .int .i64 x] w fun e w' => e = .returned (.bool (Win.done ⟨vb, vm⟩ x)) ∧ Same w w' := fun w => hdone.out ⟨vb, vm⟩ hv x hyx w
            have k2 := fun w => hdone.out (Win.next ⟨vb, vm⟩ x) hok x hyx w
            have k3 := fun w => hgood.out (Win.next ⟨vb, vm⟩ x) hok w
            have k4 := fun w h => hmk.out (Win.next ⟨vb, vm⟩ x) hok x w hyx h
            rw [f1] at k1
            obtain ⟨nb, hnb⟩ : ∃ y, y = (Win.next ⟨vb, vm⟩ x).base := ⟨_, rfl⟩
            obtain ⟨nm, hnm⟩ : ∃ y, y = (Win.next ⟨vb, vm⟩ x).bits := ⟨_, rfl⟩
            have hnn : Win.next ⟨vb, vm⟩ x = ⟨nb, nm⟩ := by rw [hnb, hnm]
            rw [← hnb, ← hnm] at hc1
            rw [hnn] at hok f2 f3 f4 f5 f6 k2 k3 k4
            replace k2 : ∀ w, Calls Tryd.prog 28 #[.agg #[.int .i64 nb, .int .u64 (nm : Nat)], .int .i64 x] w fun e w' => e = .returned (.bool (Win.done ⟨nb, nm⟩ x)) ∧ Same w w' := k2
            replace k3 : ∀ w, Calls Tryd.prog 26 #[.agg #[.int .i64 nb, .int .u64 (nm : Nat)]] w fun e w' => e = .returned (.bool (Win.good ⟨nb, nm⟩)) ∧ Same w w' := k3
            replace k4 : ∀ w, Tab w → Calls Tryd.prog 23 #[.agg #[.int .i64 nb, .int .u64 (nm : Nat)], .int .i64 x] w fun e w' => e = .returned (.tuple #[.agg #[.int .i64 (Win.mark ⟨nb, nm⟩ x).base, .int .u64 ((Win.mark ⟨nb, nm⟩ x).bits : Nat)], .int .i64 (Win.ask ⟨nb, nm⟩ 64 x)]) ∧ Same w w' := k4
            rw [f2] at k2
            rw [f3] at k3
            rw [f4] at k4
            obtain ⟨zb, hzb⟩ : ∃ y, y = (Win.mark ⟨nb, nm⟩ x).base := ⟨_, rfl⟩
            obtain ⟨zm, hzm⟩ : ∃ y, y = (Win.mark ⟨nb, nm⟩ x).bits := ⟨_, rfl⟩
            rw [← hzb, ← hzm] at k4
            obtain ⟨Dv, hDv⟩ : ∃ y, y = Win.done ⟨vb, vm⟩ num := ⟨_, rfl⟩
            obtain ⟨Dn, hDn⟩ : ∃ y, y = Win.done ⟨nb, nm⟩ num := ⟨_, rfl⟩
            rw [← hDv, ← hDn] at f5
            rw [← hDv]
            have f7 : Win.count ⟨nb, nm⟩ = Cw + ((c + 1 : Nat) : Int) := by rw [f6]; omega
            have f8 : Decidable.decide (num = x) = (x == num) := by rw [Bool.eq_iff_iff]; simp; exact eq_comm
            rw [f8] at f5
            clear hask hmn f1 f2 f3 f4 f6 f8 hnb hnm hnn hzb hzm hDv hct
            replace f7 := Lib.hid f7
            replace hDn := Lib.hid hDn
            replace hok := Lib.hid hok
            replace hc1 := Lib.hid hc1
            replace k1 := Lib.hid k1
            replace k2 := Lib.hid k2
            replace k3 := Lib.hid k3
            replace k4 := Lib.hid k4
            go_wp2_with (refine load_row rfl _ _ rfl g rfl _ _ _ _ hrg.out Tryd.underlying38 rfl hinf.out ?_)
            refine (hc1.out _ (hT.out.same hs.out)).mono ?_
            rintro e w3 ⟨rfl, hs3⟩
            clear hc1
            go_upto_region 9 with fail
            obtain ⟨w4, hnw⟩ : ∃ y, y = w3.alloc (.cells #[.int .i64 nb, .int .u64 (nm : Nat)] 38) := ⟨_, rfl⟩
            have sN : Same w3 w4 := by rw [hnw]; exact Same.refl.alloc _
            rw [← hnw]
            have rN : w4.heap[w3.heap.size]? = some (.cells #[.int .i64 nb, .int .u64 (nm : Nat)] 38 (0, 0)) := by rw [hnw]; exact heap_alloc_new _ _
            clear hnw
            have rv := Lib.hid rN
            have s4 := hs3.trans sN
            have z3 := hs3.size
            clear rN sN hs3
            replace hrg := Lib.hid (s4.row hrg.out)
            replace hr0 := Lib.hid (s4.row hr0.out)
            replace hs := Lib.hid (hs.out.trans s4)
            clear s4
            go_wp2_with (refine load_row rfl _ _ rfl g rfl _ _ _ _ hrg.out Tryd.underlying38 rfl hinf.out ?_)
            refine (k1.out _).mono ?_
            rintro e w5 ⟨rfl, s4⟩
            replace rv := Lib.hid (s4.row rv.out)
            replace hrg := Lib.hid (s4.row hrg.out)
            replace hr0 := Lib.hid (s4.row hr0.out)
            replace hs := Lib.hid (hs.out.trans s4)
            clear s4 k1
            go_wp2_with (refine load_row rfl _ _ rfl w3.heap.size rfl _ _ _ _ rv.out Tryd.underlying38 rfl hinf.out ?_)
            refine (k2.out _).mono ?_
            rintro e w6 ⟨rfl, s4⟩
            replace rv := Lib.hid (s4.row rv.out)
            replace hrg := Lib.hid (s4.row hrg.out)
            replace hr0 := Lib.hid (s4.row hr0.out)
            replace hs := Lib.hid (hs.out.trans s4)
            clear s4 k2
            go_wp2_with (refine load_row rfl _ _ rfl w3.heap.size rfl _ _ _ _ rv.out Tryd.underlying38 rfl hinf.out ?_)
            refine (k3.out _).mono ?_
            rintro e w7 ⟨rfl, s4⟩
            replace rv := Lib.hid (s4.row rv.out)
            replace hrg := Lib.hid (s4.row hrg.out)
            replace hr0 := Lib.hid (s4.row hr0.out)
            replace hs := Lib.hid (hs.out.trans s4)
            clear s4 k3
            go_wp2_with (refine load_row rfl _ _ rfl w3.heap.size rfl _ _ _ _ rv.out Tryd.underlying38 rfl hinf.out ?_)
            refine (k4.out _ (hT.out.same hs.out)).mono ?_
            rintro e w8 ⟨rfl, hs8⟩
            clear k4
            go_upto_region 13 with fail
            obtain ⟨w10, hnw⟩ : ∃ y, y = w8.alloc (.cells #[.int .i64 zb, .int .u64 (zm : Nat)] 38) := ⟨_, rfl⟩
            have sN : Same w8 w10 := by rw [hnw]; exact Same.refl.alloc _
            rw [← hnw]
            have rN : w10.heap[w8.heap.size]? = some (.cells #[.int .i64 zb, .int .u64 (zm : Nat)] 38 (0, 0)) := by rw [hnw]; exact heap_alloc_new _ _
            clear hnw
            have s4 := hs8.trans sN
            clear rN sN hs8
            replace rv := Lib.hid (s4.row rv.out)
            replace hrg := Lib.hid (s4.row hrg.out)
            replace hr0 := Lib.hid (s4.row hr0.out)
            replace hs := Lib.hid (hs.out.trans s4)
            clear s4
            cases Dv
            · rw [Bool.false_or] at f5
              have f9 := f5.symm
              clear f5
              go_wp2_with (first | (refine load_row rfl _ _ rfl w3.heap.size rfl _ _ _ _ rv.out Tryd.underlying38 rfl hinf.out ?_) | (refine store_row rfl _ _ _ rfl g #[.int .i64 nb, .int .u64 nm] rfl rfl _ _ hrg.out hinf.out rfl (by simp [Value.oneCell']) ?_; intro w9 hb9 hk9; replace hb9 := Lib.hid hb9; replace hk9 := Lib.hid hk9))
              go_roundw
              case rel => exact ⟨j + 1, c + 1, ⟨nb, nm⟩, by omega, by go_num, by go_num, by omega, by rw [← hDn.out], hok.out, f7.out, hb9.out, (hk9.out.block _ (blk_lt hr0.out) (by omega)).trans hr0.out, hs.out.keep hk9.out (fun x hx hv => by omega)⟩
              case measure => simp [intOf]; omega
            · rw [Bool.true_or] at f5
              subst f5
              go_wp2_with (first | (refine load_row rfl _ _ rfl w3.heap.size rfl _ _ _ _ rv.out Tryd.underlying38 rfl hinf.out ?_) | (refine store_row rfl _ _ _ rfl g #[.int .i64 nb, .int .u64 nm] rfl rfl _ _ hrg.out hinf.out rfl (by simp [Value.oneCell']) ?_; intro w9 hb9 hk9; replace hb9 := Lib.hid hb9; replace hk9 := Lib.hid hk9))
              go_roundw
              case rel => exact ⟨j + 1, c + 1, ⟨nb, nm⟩, by omega, by go_num, by go_num, by omega, by rw [← hDn.out], hok.out, f7.out, hb9.out, (hk9.out.block _ (blk_lt hr0.out) (by omega)).trans hr0.out, hs.out.keep hk9.out (fun x hx hv => by omega)⟩
              case measure => simp [intOf]; omega
          · obtain ⟨E, hE⟩ : ∃ E, E = Win.ask ⟨vb, vm⟩ 64 x := ⟨_, rfl⟩
            obtain ⟨nb, hnb⟩ : ∃ y, y = (Win.mark ⟨vb, vm⟩ x).base := ⟨_, rfl⟩
            obtain ⟨nm, hnm⟩ : ∃ y, y = (Win.mark ⟨vb, vm⟩ x).bits := ⟨_, rfl⟩
            rw [← hE, ← hnb, ← hnm] at hc1
            rw [← hE] at hask
            have hne : (E != 0) = true := by simpa using hask
            obtain ⟨Dv, hDv⟩ : ∃ y, y = Win.done ⟨vb, vm⟩ num := ⟨_, rfl⟩
            rw [← hDv]
            replace hDv := Lib.hid hDv
            clear hask hE hnb hnm
            replace hc1 := Lib.hid hc1
            go_wp2_with (refine load_row rfl _ _ rfl g rfl _ _ _ _ hrg.out Tryd.underlying38 rfl hinf.out ?_)
            refine (hc1.out _ (hT.out.same hs.out)).mono ?_
            rintro e w3 ⟨rfl, hs3⟩
            clear hc1
            go_upto_region 9 with fail
            obtain ⟨w4, hnw⟩ : ∃ y, y = w3.alloc (.cells #[.int .i64 nb, .int .u64 (nm : Nat)] 38) := ⟨_, rfl⟩
            have sN : Same w3 w4 := by rw [hnw]; exact Same.refl.alloc _
            rw [← hnw]
            have rN : w4.heap[w3.heap.size]? = some (.cells #[.int .i64 nb, .int .u64 (nm : Nat)] 38 (0, 0)) := by rw [hnw]; exact heap_alloc_new _ _
            clear hnw
            have s4 := hs3.trans sN
            clear rN sN hs3
            replace hrg := Lib.hid (s4.row hrg.out)
            replace hr0 := Lib.hid (s4.row hr0.out)
            replace hs := Lib.hid (hs.out.trans s4)
            clear s4
            go_wp2
            go_roundw
            case rel => exact ⟨j + 1, c, ⟨vb, vm⟩, by omega, by go_num, rfl, by omega, by rw [← hDv.out], hv, hct.out, hrg.out, hr0.out, hs.out⟩
            case measure => simp [intOf]; omega
        · obtain rfl : j = n := by omega
          have k1 : ∀ w, Calls Tryd.prog 28 #[.agg #[.int .i64 vb, .int .u64 (vm : Nat)], .int .i64 num] w fun e w' => e = .returned (.bool (Win.done ⟨vb, vm⟩ num)) ∧ Same w w' := fun w => hdone.out ⟨vb, vm⟩ hv num hnum2 w
          have k2 : ∀ w, Tab w → Calls Tryd.prog 30 #[.agg #[.int .i64 vb, .int .u64 (vm : Nat)]] w fun e w' => e = .returned (.int .i64 (Win.count ⟨vb, vm⟩)) ∧ Same w w' := fun w h => hcount.out ⟨vb, vm⟩ hv w h
          rw [hct.out] at k2
          obtain ⟨D, hD⟩ : ∃ y, y = Win.done ⟨vb, vm⟩ num := ⟨_, rfl⟩
          rw [← hD] at k1 ⊢
          clear hD hct
          have hDD : (D == D) = true := by simp
          have hT2 := Lib.hid (hT.out.same hs)
          clear hT
          replace hs := Lib.hid hs
          replace k1 := Lib.hid k1
          replace k2 := Lib.hid k2
          by_cases hc0' : c = 0
          · subst hc0'
            go_upto_region 19 with fail
            refine wp_region_last (by kernel_rfl) [(70, 0), (71, 1), (72, 2), (73, 3), (74, 4), (75, 5), (76, 6), (77, 7), (78, 8), (79, 9), (80, 10), (81, 11), (82, 12), (83, 13), (84, 14), (85, 15), (86, 16), (87, 17), (88, 18), (89, 19), (90, 20), (6, 21)] Same (Same _) [isV (.agg #[.int .i64 vb, .int .u64 vm]), isV (.int .i64 num), isV (.bool D), isV (.bool D), isV (.bool true), isV (.bool true), isV (.int .i64 0), isV (.bool true), isV (.bool true), isV undef, isV undef, isV undef, isV undef, isV undef, isV undef, isV undef, isV (.bool true), isV (.bool true), isV (.bool true), isV (.bool true), isV (.bool true)] Same.refl.drew (fun _ _ h k => h.trans k) (by simp [isV_stable, isB_stable, isAny_stable]) (by decide) (l := [_, _, _, _, _, _, _, _, _, _, _, _, _, _, _, _, _, _, _, _, _]) rfl (by decide) (by decide) ?_ ?_
            · refine ⟨?_, ?_, ?_, ?_, ?_, ?_, ?_, ?_, ?_, ?_, ?_, ?_, ?_, ?_, ?_, ?_, ?_, ?_, ?_, ?_, ?_, trivial⟩
              all_goals (intro u wx hI hp; simp only [mkAct, List.foldl_cons, List.foldl_nil, List.setIfInBounds_toArray, List.set_cons_succ, List.set_cons_zero])
              · -- operation 0
                go_wp2_with (refine load_row rfl _ _ rfl g rfl _ _ _ _ (hI.row hrg.out) Tryd.underlying38 rfl hinf.out ?_)
                refine stq_v rfl Same.refl ?_
                first | (simp only [mkAct, List.foldl_cons, List.foldl_nil, List.setIfInBounds_toArray, List.set_cons_succ, List.set_cons_zero, upd, reduceIte, Nat.reduceEqDiff, Nat.reduceAdd, str]; done) | (simp [mkAct, upd, str, *]; done)
              · -- operation 1
                go_wp2
                refine stq_v rfl Same.refl ?_
                first | (simp only [mkAct, List.foldl_cons, List.foldl_nil, List.setIfInBounds_toArray, List.set_cons_succ, List.set_cons_zero, upd, reduceIte, Nat.reduceEqDiff, Nat.reduceAdd, str]; done) | (simp [mkAct, upd, str, *]; done)
              · -- operation 2
                obtain ⟨f0, f1, -⟩ := hp
                replace f0 : u 0 = (.agg #[.int .i64 vb, .int .u64 vm]) := f0
                replace f1 : u 1 = (.int .i64 num) := f1
                try simp only [f0, f1, str]
                go_wp2_with fail
                refine (k1.out _).mono ?_
                rintro e w1 ⟨rfl, hs'⟩
                go_wp2
                refine stq_v rfl hs' ?_
                first | (simp only [mkAct, List.foldl_cons, List.foldl_nil, List.setIfInBounds_toArray, List.set_cons_succ, List.set_cons_zero, upd, reduceIte, Nat.reduceEqDiff, Nat.reduceAdd, f0, f1, str]; done) | (simp [mkAct, upd, f0, f1, str, *]; done)
              · -- operation 3
                go_wp2
                refine stq_v rfl Same.refl ?_
                first | (simp only [mkAct, List.foldl_cons, List.foldl_nil, List.setIfInBounds_toArray, List.set_cons_succ, List.set_cons_zero, upd, reduceIte, Nat.reduceEqDiff, Nat.reduceAdd, str]; done) | (simp [mkAct, upd, str, *]; done)
              · -- operation 4
                obtain ⟨f2, f3, -⟩ := hp
                replace f2 : u 2 = (.bool D) := f2
                replace f3 : u 3 = (.bool D) := f3
                try simp only [f2, f3, str]
                go_wp2
                refine stq_v rfl Same.refl ?_
                first | (simp only [mkAct, List.foldl_cons, List.foldl_nil, List.setIfInBounds_toArray, List.set_cons_succ, List.set_cons_zero, upd, reduceIte, Nat.reduceEqDiff, Nat.reduceAdd, f2, f3, str]; done) | (simp [mkAct, upd, f2, f3, str, *]; done)
              · -- operation 5
                obtain ⟨f4, -, -⟩ := hp
                replace f4 : u 4 = (.bool true) := f4
                try simp only [f4, str]
                go_wp2
                refine stq_v rfl Same.refl ?_
                first | (simp only [mkAct, List.foldl_cons, List.foldl_nil, List.setIfInBounds_toArray, List.set_cons_succ, List.set_cons_zero, upd, reduceIte, Nat.reduceEqDiff, Nat.reduceAdd, f4, str]; done) | (simp [mkAct, upd, f4, str, *]; done)
              · -- operation 6
                obtain ⟨f5, -⟩ := hp
                replace f5 : u 5 = (.bool true) := f5
                try simp only [f5, str]
                go_wp2
                refine stq_v rfl Same.refl ?_
                first | (simp only [mkAct, List.foldl_cons, List.foldl_nil, List.setIfInBounds_toArray, List.set_cons_succ, List.set_cons_zero, upd, reduceIte, Nat.reduceEqDiff, Nat.reduceAdd, f5, str]; done) | (simp [mkAct, upd, f5, str, *]; done)
              · -- operation 7
                obtain ⟨f6, f5, -⟩ := hp
                replace f6 : u 6 = (.int .i64 0) := f6
                replace f5 : u 5 = (.bool true) := f5
                try simp only [f6, f5, str]
                go_wp2
                refine stq_v rfl Same.refl ?_
                first | (simp only [mkAct, List.foldl_cons, List.foldl_nil, List.setIfInBounds_toArray, List.set_cons_succ, List.set_cons_zero, upd, reduceIte, Nat.reduceEqDiff, Nat.reduceAdd, f6, f5, str]; done) | (simp [mkAct, upd, f6, f5, str, *]; done)
              · -- operation 8
                obtain ⟨f7, -, f5, -⟩ := hp
                replace f7 : u 7 = (.bool true) := f7
                replace f5 : u 5 = (.bool true) := f5
                try simp only [f7, f5, str]
                go_wp2
                refine stq_v rfl Same.refl ?_
                first | (simp only [mkAct, List.foldl_cons, List.foldl_nil, List.setIfInBounds_toArray, List.set_cons_succ, List.set_cons_zero, upd, reduceIte, Nat.reduceEqDiff, Nat.reduceAdd, f7, f5, str]; done) | (simp [mkAct, upd, f7, f5, str, *]; done)
              · -- operation 9
                obtain ⟨f8, -⟩ := hp
                replace f8 : u 8 = (.bool true) := f8
                try simp only [f8, str]
                go_wp2
                refine stq_v rfl Same.refl ?_
                first | (simp only [mkAct, List.foldl_cons, List.foldl_nil, List.setIfInBounds_toArray, List.set_cons_succ, List.set_cons_zero, upd, reduceIte, Nat.reduceEqDiff, Nat.reduceAdd, f8, str]; done) | (simp [mkAct, upd, f8, str, *]; done)
              · -- operation 10
                obtain ⟨f9, -, f8, -⟩ := hp
                replace f9 : u 9 = undef := f9
                replace f8 : u 8 = (.bool true) := f8
                try simp only [f9, f8, str]
                go_wp2
                refine stq_v rfl Same.refl ?_
                first | (simp only [mkAct, List.foldl_cons, List.foldl_nil, List.setIfInBounds_toArray, List.set_cons_succ, List.set_cons_zero, upd, reduceIte, Nat.reduceEqDiff, Nat.reduceAdd, f9, f8, str]; done) | (simp [mkAct, upd, f9, f8, str, *]; done)
              · -- operation 11
                obtain ⟨f8, -⟩ := hp
                replace f8 : u 8 = (.bool true) := f8
                try simp only [f8, str]
                go_wp2
                refine stq_v rfl Same.refl ?_
                first | (simp only [mkAct, List.foldl_cons, List.foldl_nil, List.setIfInBounds_toArray, List.set_cons_succ, List.set_cons_zero, upd, reduceIte, Nat.reduceEqDiff, Nat.reduceAdd, f8, str]; done) | (simp [mkAct, upd, f8, str, *]; done)
              · -- operation 12
                obtain ⟨f11, -, f8, -⟩ := hp
                replace f11 : u 11 = undef := f11
                replace f8 : u 8 = (.bool true) := f8
                try simp only [f11, f8, str]
                go_wp2
                refine stq_v rfl Same.refl ?_
                first | (simp only [mkAct, List.foldl_cons, List.foldl_nil, List.setIfInBounds_toArray, List.set_cons_succ, List.set_cons_zero, upd, reduceIte, Nat.reduceEqDiff, Nat.reduceAdd, f11, f8, str]; done) | (simp [mkAct, upd, f11, f8, str, *]; done)
              · -- operation 13
                obtain ⟨f8, -⟩ := hp
                replace f8 : u 8 = (.bool true) := f8
                try simp only [f8, str]
                go_wp2
                refine stq_v rfl Same.refl ?_
                first | (simp only [mkAct, List.foldl_cons, List.foldl_nil, List.setIfInBounds_toArray, List.set_cons_succ, List.set_cons_zero, upd, reduceIte, Nat.reduceEqDiff, Nat.reduceAdd, f8, str]; done) | (simp [mkAct, upd, f8, str, *]; done)
              · -- operation 14
                obtain ⟨f12, f13, f8, -⟩ := hp
                replace f12 : u 12 = undef := f12
                replace f13 : u 13 = undef := f13
                replace f8 : u 8 = (.bool true) := f8
                try simp only [f12, f13, f8, str]
                go_wp2
                refine stq_v rfl Same.refl ?_
                first | (simp only [mkAct, List.foldl_cons, List.foldl_nil, List.setIfInBounds_toArray, List.set_cons_succ, List.set_cons_zero, upd, reduceIte, Nat.reduceEqDiff, Nat.reduceAdd, f12, f13, f8, str]; done) | (simp [mkAct, upd, f12, f13, f8, str, *]; done)
              · -- operation 15
                obtain ⟨f10, f14, f8, -⟩ := hp
                replace f10 : u 10 = undef := f10
                replace f14 : u 14 = undef := f14
                replace f8 : u 8 = (.bool true) := f8
                try simp only [f10, f14, f8, str]
                go_wp2
                refine stq_v rfl Same.refl ?_
                first | (simp only [mkAct, List.foldl_cons, List.foldl_nil, List.setIfInBounds_toArray, List.set_cons_succ, List.set_cons_zero, upd, reduceIte, Nat.reduceEqDiff, Nat.reduceAdd, f10, f14, f8, str]; done) | (simp [mkAct, upd, f10, f14, f8, str, *]; done)
              · -- operation 16
                obtain ⟨f8, f15, f5, -⟩ := hp
                replace f8 : u 8 = (.bool true) := f8
                replace f15 : u 15 = undef := f15
                replace f5 : u 5 = (.bool true) := f5
                try simp only [f8, f15, f5, str]
                go_wp2
                refine stq_v rfl Same.refl ?_
                first | (simp only [mkAct, List.foldl_cons, List.foldl_nil, List.setIfInBounds_toArray, List.set_cons_succ, List.set_cons_zero, upd, reduceIte, Nat.reduceEqDiff, Nat.reduceAdd, f8, f15, f5, str]; done) | (simp [mkAct, upd, f8, f15, f5, str, *]; done)
              · -- operation 17
                obtain ⟨f5, f16, -⟩ := hp
                replace f5 : u 5 = (.bool true) := f5
                replace f16 : u 16 = (.bool true) := f16
                try simp only [f5, f16, str]
                go_wp2
                refine stq_v rfl Same.refl ?_
                first | (simp only [mkAct, List.foldl_cons, List.foldl_nil, List.setIfInBounds_toArray, List.set_cons_succ, List.set_cons_zero, upd, reduceIte, Nat.reduceEqDiff, Nat.reduceAdd, f5, f16, str]; done) | (simp [mkAct, upd, f5, f16, str, *]; done)
              · -- operation 18
                obtain ⟨f17, -, -⟩ := hp
                replace f17 : u 17 = (.bool true) := f17
                try simp only [f17, str]
                go_wp2
                refine stq_v rfl Same.refl ?_
                first | (simp only [mkAct, List.foldl_cons, List.foldl_nil, List.setIfInBounds_toArray, List.set_cons_succ, List.set_cons_zero, upd, reduceIte, Nat.reduceEqDiff, Nat.reduceAdd, f17, str]; done) | (simp [mkAct, upd, f17, str, *]; done)
              · -- operation 19
                obtain ⟨-, f18, -⟩ := hp
                replace f18 : u 18 = (.bool true) := f18
                try simp only [f18, str]
                go_wp2_with fail
                refine (hl.out _ (hT2.out.same hI)).mono ?_
                rintro e w1 ⟨rfl, hs'⟩
                go_wp2
                refine stq_v rfl hs' ?_
                first | (simp only [mkAct, List.foldl_cons, List.foldl_nil, List.setIfInBounds_toArray, List.set_cons_succ, List.set_cons_zero, upd, reduceIte, Nat.reduceEqDiff, Nat.reduceAdd, f18, str]; done) | (simp [mkAct, upd, f18, str, *]; done)
              · -- operation 20
                obtain ⟨f18, f19, -⟩ := hp
                replace f18 : u 18 = (.bool true) := f18
                replace f19 : u 19 = (.bool true) := f19
                try simp only [f18, f19, str]
                go_wp2
                refine stq_v rfl Same.refl ?_
                first | (simp only [mkAct, List.foldl_cons, List.foldl_nil, List.setIfInBounds_toArray, List.set_cons_succ, List.set_cons_zero, upd, reduceIte, Nat.reduceEqDiff, Nat.reduceAdd, f18, f19, str]; done) | (simp [mkAct, upd, f18, f19, str, *]; done)
            · intro u wx hI hR
              obtain ⟨r0, r1, r2, r3, r4, r5, r6, r7, r8, r9, r10, r11, r12, r13, r14, r15, r16, r17, r18, r19, r20, -⟩ := hR
              replace r0 : u 0 = (.agg #[.int .i64 vb, .int .u64 vm]) := r0
              replace r1 : u 1 = (.int .i64 num) := r1
              replace r2 : u 2 = (.bool D) := r2
              replace r3 : u 3 = (.bool D) := r3
              replace r4 : u 4 = (.bool true) := r4
              replace r5 : u 5 = (.bool true) := r5
              replace r6 : u 6 = (.int .i64 0) := r6
              replace r7 : u 7 = (.bool true) := r7
              replace r8 : u 8 = (.bool true) := r8
              replace r9 : u 9 = undef := r9
              replace r10 : u 10 = undef := r10
              replace r11 : u 11 = undef := r11
              replace r12 : u 12 = undef := r12
              replace r13 : u 13 = undef := r13
              replace r14 : u 14 = undef := r14
              replace r15 : u 15 = undef := r15
              replace r16 : u 16 = (.bool true) := r16
              replace r17 : u 17 = (.bool true) := r17
              replace r18 : u 18 = (.bool true) := r18
              replace r19 : u 19 = (.bool true) := r19
              replace r20 : u 20 = (.bool true) := r20
              simp only [mkAct, List.foldl_cons, List.foldl_nil, List.setIfInBounds_toArray, List.set_cons_succ, List.set_cons_zero]
              try simp only [str, r0, r1, r2, r3, r4, r5, r6, r7, r8, r9, r10, r11, r12, r13, r14, r15, r16, r17, r18, r19, r20]
              go_wp2
              go_ret
              exact ⟨rfl, hs.out.trans hI⟩
          · have hcn : ((c : Int) == 0) = false := by simp; omega
            have hsum : Cw + (c : Int) ≤ 4398046511104 := by omega
            have hee : (Cw + (c : Int) == Cw + (c : Int)) = true := by simp
            go_upto_region 19 with fail
            refine wp_region_last (by kernel_rfl) [(70, 0), (71, 1), (72, 2), (73, 3), (74, 4), (75, 5), (76, 6), (77, 7), (78, 8), (79, 9), (80, 10), (81, 11), (82, 12), (83, 13), (84, 14), (85, 15), (86, 16), (87, 17), (88, 18), (89, 19), (90, 20), (6, 21)] Same (Same _) [isV (.agg #[.int .i64 vb, .int .u64 vm]), isV (.int .i64 num), isV (.bool D), isV (.bool D), isV (.bool true), isV (.bool true), isV (.int .i64 c), isV (.bool false), isV (.bool false), isV (.agg #[.int .i64 vb, .int .u64 vm]), isV (.int .i64 (Cw + (c : Int))), isV (.agg #[.int .i64 b, .int .u64 m]), isV (.int .i64 Cw), isV (.int .i64 c), isV (.int .i64 (Cw + (c : Int))), isV (.bool true), isV (.bool true), isV (.bool true), isV (.bool true), isV (.bool true), isV (.bool true)] Same.refl.drew (fun _ _ h k => h.trans k) (by simp [isV_stable, isB_stable, isAny_stable]) (by decide) (l := [_, _, _, _, _, _, _, _, _, _, _, _, _, _, _, _, _, _, _, _, _]) rfl (by decide) (by decide) ?_ ?_
            · refine ⟨?_, ?_, ?_, ?_, ?_, ?_, ?_, ?_, ?_, ?_, ?_, ?_, ?_, ?_, ?_, ?_, ?_, ?_, ?_, ?_, ?_, trivial⟩
              all_goals (intro u wx hI hp; simp only [mkAct, List.foldl_cons, List.foldl_nil, List.setIfInBounds_toArray, List.set_cons_succ, List.set_cons_zero])
              · -- operation 0
                go_wp2_with (refine load_row rfl _ _ rfl g rfl _ _ _ _ (hI.row hrg.out) Tryd.underlying38 rfl hinf.out ?_)
                refine stq_v rfl Same.refl ?_
                first | (simp only [mkAct, List.foldl_cons, List.foldl_nil, List.setIfInBounds_toArray, List.set_cons_succ, List.set_cons_zero, upd, reduceIte, Nat.reduceEqDiff, Nat.reduceAdd, str]; done) | (simp [mkAct, upd, str, *]; done)
              · -- operation 1
                go_wp2
                refine stq_v rfl Same.refl ?_
                first | (simp only [mkAct, List.foldl_cons, List.foldl_nil, List.setIfInBounds_toArray, List.set_cons_succ, List.set_cons_zero, upd, reduceIte, Nat.reduceEqDiff, Nat.reduceAdd, str]; done) | (simp [mkAct, upd, str, *]; done)
              · -- operation 2
                obtain ⟨f0, f1, -⟩ := hp
                replace f0 : u 0 = (.agg #[.int .i64 vb, .int .u64 vm]) := f0
                replace f1 : u 1 = (.int .i64 num) := f1
                try simp only [f0, f1, str]
                go_wp2_with fail
                refine (k1.out _).mono ?_
                rintro e w1 ⟨rfl, hs'⟩
                go_wp2
                refine stq_v rfl hs' ?_
                first | (simp only [mkAct, List.foldl_cons, List.foldl_nil, List.setIfInBounds_toArray, List.set_cons_succ, List.set_cons_zero, upd, reduceIte, Nat.reduceEqDiff, Nat.reduceAdd, f0, f1, str]; done) | (simp [mkAct, upd, f0, f1, str, *]; done)
              · -- operation 3
                go_wp2
                refine stq_v rfl Same.refl ?_
                first | (simp only [mkAct, List.foldl_cons, List.foldl_nil, List.setIfInBounds_toArray, List.set_cons_succ, List.set_cons_zero, upd, reduceIte, Nat.reduceEqDiff, Nat.reduceAdd, str]; done) | (simp [mkAct, upd, str, *]; done)
              · -- operation 4
                obtain ⟨f2, f3, -⟩ := hp
                replace f2 : u 2 = (.bool D) := f2
                replace f3 : u 3 = (.bool D) := f3
                try simp only [f2, f3, str]
                go_wp2
                refine stq_v rfl Same.refl ?_
                first | (simp only [mkAct, List.foldl_cons, List.foldl_nil, List.setIfInBounds_toArray, List.set_cons_succ, List.set_cons_zero, upd, reduceIte, Nat.reduceEqDiff, Nat.reduceAdd, f2, f3, str]; done) | (simp [mkAct, upd, f2, f3, str, *]; done)
              · -- operation 5
                obtain ⟨f4, -, -⟩ := hp
                replace f4 : u 4 = (.bool true) := f4
                try simp only [f4, str]
                go_wp2
                refine stq_v rfl Same.refl ?_
                first | (simp only [mkAct, List.foldl_cons, List.foldl_nil, List.setIfInBounds_toArray, List.set_cons_succ, List.set_cons_zero, upd, reduceIte, Nat.reduceEqDiff, Nat.reduceAdd, f4, str]; done) | (simp [mkAct, upd, f4, str, *]; done)
              · -- operation 6
                obtain ⟨f5, -⟩ := hp
                replace f5 : u 5 = (.bool true) := f5
                try simp only [f5, str]
                go_wp2
                refine stq_v rfl Same.refl ?_
                first | (simp only [mkAct, List.foldl_cons, List.foldl_nil, List.setIfInBounds_toArray, List.set_cons_succ, List.set_cons_zero, upd, reduceIte, Nat.reduceEqDiff, Nat.reduceAdd, f5, str]; done) | (simp [mkAct, upd, f5, str, *]; done)
              · -- operation 7
                obtain ⟨f6, f5, -⟩ := hp
                replace f6 : u 6 = (.int .i64 c) := f6
                replace f5 : u 5 = (.bool true) := f5
                try simp only [f6, f5, str]
                go_wp2
                refine stq_v rfl Same.refl ?_
                first | (simp only [mkAct, List.foldl_cons, List.foldl_nil, List.setIfInBounds_toArray, List.set_cons_succ, List.set_cons_zero, upd, reduceIte, Nat.reduceEqDiff, Nat.reduceAdd, f6, f5, str]; done) | (simp [mkAct, upd, f6, f5, str, *]; done)
              · -- operation 8
                obtain ⟨f7, -, f5, -⟩ := hp
                replace f7 : u 7 = (.bool false) := f7
                replace f5 : u 5 = (.bool true) := f5
                try simp only [f7, f5, str]
                go_wp2
                refine stq_v rfl Same.refl ?_
                first | (simp only [mkAct, List.foldl_cons, List.foldl_nil, List.setIfInBounds_toArray, List.set_cons_succ, List.set_cons_zero, upd, reduceIte, Nat.reduceEqDiff, Nat.reduceAdd, f7, f5, str]; done) | (simp [mkAct, upd, f7, f5, str, *]; done)
              · -- operation 9
                obtain ⟨f8, -⟩ := hp
                replace f8 : u 8 = (.bool false) := f8
                try simp only [f8, str]
                go_wp2_with (refine load_row rfl _ _ rfl g rfl _ _ _ _ (hI.row hrg.out) Tryd.underlying38 rfl hinf.out ?_)
                refine stq_v rfl Same.refl ?_
                first | (simp only [mkAct, List.foldl_cons, List.foldl_nil, List.setIfInBounds_toArray, List.set_cons_succ, List.set_cons_zero, upd, reduceIte, Nat.reduceEqDiff, Nat.reduceAdd, f8, str]; done) | (simp [mkAct, upd, f8, str, *]; done)
              · -- operation 10
                obtain ⟨f9, -, f8, -⟩ := hp
                replace f9 : u 9 = (.agg #[.int .i64 vb, .int .u64 vm]) := f9
                replace f8 : u 8 = (.bool false) := f8
                try simp only [f9, f8, str]
                go_wp2_with fail
                refine (k2.out _ (hT2.out.same hI)).mono ?_
                rintro e w1 ⟨rfl, hs'⟩
                go_wp2
                refine stq_v rfl hs' ?_
                first | (simp only [mkAct, List.foldl_cons, List.foldl_nil, List.setIfInBounds_toArray, List.set_cons_succ, List.set_cons_zero, upd, reduceIte, Nat.reduceEqDiff, Nat.reduceAdd, f9, f8, str]; done) | (simp [mkAct, upd, f9, f8, str, *]; done)
              · -- operation 11
                obtain ⟨f8, -⟩ := hp
                replace f8 : u 8 = (.bool false) := f8
                try simp only [f8, str]
                go_wp2_with (refine load_row rfl _ _ rfl w.heap.size rfl _ _ _ _ (hI.row hr0.out) Tryd.underlying38 rfl hinf.out ?_)
                refine stq_v rfl Same.refl ?_
                first | (simp only [mkAct, List.foldl_cons, List.foldl_nil, List.setIfInBounds_toArray, List.set_cons_succ, List.set_cons_zero, upd, reduceIte, Nat.reduceEqDiff, Nat.reduceAdd, f8, str]; done) | (simp [mkAct, upd, f8, str, *]; done)
              · -- operation 12
                obtain ⟨f11, -, f8, -⟩ := hp
                replace f11 : u 11 = (.agg #[.int .i64 b, .int .u64 m]) := f11
                replace f8 : u 8 = (.bool false) := f8
                try simp only [f11, f8, str]
                go_wp2_with fail
                refine (hc0.out _ (hT2.out.same hI)).mono ?_
                rintro e w1 ⟨rfl, hs'⟩
                go_wp2
                refine stq_v rfl hs' ?_
                first | (simp only [mkAct, List.foldl_cons, List.foldl_nil, List.setIfInBounds_toArray, List.set_cons_succ, List.set_cons_zero, upd, reduceIte, Nat.reduceEqDiff, Nat.reduceAdd, f11, f8, str]; done) | (simp [mkAct, upd, f11, f8, str, *]; done)
              · -- operation 13
                obtain ⟨f8, -⟩ := hp
                replace f8 : u 8 = (.bool false) := f8
                try simp only [f8, str]
                go_wp2
                refine stq_v rfl Same.refl ?_
                first | (simp only [mkAct, List.foldl_cons, List.foldl_nil, List.setIfInBounds_toArray, List.set_cons_succ, List.set_cons_zero, upd, reduceIte, Nat.reduceEqDiff, Nat.reduceAdd, f8, str]; done) | (simp [mkAct, upd, f8, str, *]; done)
              · -- operation 14
                obtain ⟨f12, f13, f8, -⟩ := hp
                replace f12 : u 12 = (.int .i64 Cw) := f12
                replace f13 : u 13 = (.int .i64 c) := f13
                replace f8 : u 8 = (.bool false) := f8
                try simp only [f12, f13, f8, str]
                go_wp2
                refine stq_v rfl Same.refl ?_
                first | (simp only [mkAct, List.foldl_cons, List.foldl_nil, List.setIfInBounds_toArray, List.set_cons_succ, List.set_cons_zero, upd, reduceIte, Nat.reduceEqDiff, Nat.reduceAdd, f12, f13, f8, str]; done) | (simp [mkAct, upd, f12, f13, f8, str, *]; done)
              · -- operation 15
                obtain ⟨f10, f14, f8, -⟩ := hp
                replace f10 : u 10 = (.int .i64 (Cw + (c : Int))) := f10
                replace f14 : u 14 = (.int .i64 (Cw + (c : Int))) := f14
                replace f8 : u 8 = (.bool false) := f8
                try simp only [f10, f14, f8, str]
                go_wp2
                refine stq_v rfl Same.refl ?_
                first | (simp only [mkAct, List.foldl_cons, List.foldl_nil, List.setIfInBounds_toArray, List.set_cons_succ, List.set_cons_zero, upd, reduceIte, Nat.reduceEqDiff, Nat.reduceAdd, f10, f14, f8, str]; done) | (simp [mkAct, upd, f10, f14, f8, str, *]; done)
              · -- operation 16
                obtain ⟨f8, f15, f5, -⟩ := hp
                replace f8 : u 8 = (.bool false) := f8
                replace f15 : u 15 = (.bool true) := f15
                replace f5 : u 5 = (.bool true) := f5
                try simp only [f8, f15, f5, str]
                go_wp2
                refine stq_v rfl Same.refl ?_
                first | (simp only [mkAct, List.foldl_cons, List.foldl_nil, List.setIfInBounds_toArray, List.set_cons_succ, List.set_cons_zero, upd, reduceIte, Nat.reduceEqDiff, Nat.reduceAdd, f8, f15, f5, str]; done) | (simp [mkAct, upd, f8, f15, f5, str, *]; done)
              · -- operation 17
                obtain ⟨f5, f16, -⟩ := hp
                replace f5 : u 5 = (.bool true) := f5
                replace f16 : u 16 = (.bool true) := f16
                try simp only [f5, f16, str]
                go_wp2
                refine stq_v rfl Same.refl ?_
                first | (simp only [mkAct, List.foldl_cons, List.foldl_nil, List.setIfInBounds_toArray, List.set_cons_succ, List.set_cons_zero, upd, reduceIte, Nat.reduceEqDiff, Nat.reduceAdd, f5, f16, str]; done) | (simp [mkAct, upd, f5, f16, str, *]; done)
              · -- operation 18
                obtain ⟨f17, -, -⟩ := hp
                replace f17 : u 17 = (.bool true) := f17
                try simp only [f17, str]
                go_wp2
                refine stq_v rfl Same.refl ?_
                first | (simp only [mkAct, List.foldl_cons, List.foldl_nil, List.setIfInBounds_toArray, List.set_cons_succ, List.set_cons_zero, upd, reduceIte, Nat.reduceEqDiff, Nat.reduceAdd, f17, str]; done) | (simp [mkAct, upd, f17, str, *]; done)
              · -- operation 19
                obtain ⟨-, f18, -⟩ := hp
                replace f18 : u 18 = (.bool true) := f18
                try simp only [f18, str]
                go_wp2_with fail
                refine (hl.out _ (hT2.out.same hI)).mono ?_
                rintro e w1 ⟨rfl, hs'⟩
                go_wp2
                refine stq_v rfl hs' ?_
                first | (simp only [mkAct, List.foldl_cons, List.foldl_nil, List.setIfInBounds_toArray, List.set_cons_succ, List.set_cons_zero, upd, reduceIte, Nat.reduceEqDiff, Nat.reduceAdd, f18, str]; done) | (simp [mkAct, upd, f18, str, *]; done)
              · -- operation 20
                obtain ⟨f18, f19, -⟩ := hp
                replace f18 : u 18 = (.bool true) := f18
                replace f19 : u 19 = (.bool true) := f19
                try simp only [f18, f19, str]
                go_wp2
                refine stq_v rfl Same.refl ?_
                first | (simp only [mkAct, List.foldl_cons, List.foldl_nil, List.setIfInBounds_toArray, List.set_cons_succ, List.set_cons_zero, upd, reduceIte, Nat.reduceEqDiff, Nat.reduceAdd, f18, f19, str]; done) | (simp [mkAct, upd, f18, f19, str, *]; done)
            · intro u wx hI hR
              obtain ⟨r0, r1, r2, r3, r4, r5, r6, r7, r8, r9, r10, r11, r12, r13, r14, r15, r16, r17, r18, r19, r20, -⟩ := hR
              replace r0 : u 0 = (.agg #[.int .i64 vb, .int .u64 vm]) := r0
              replace r1 : u 1 = (.int .i64 num) := r1
              replace r2 : u 2 = (.bool D) := r2
              replace r3 : u 3 = (.bool D) := r3
              replace r4 : u 4 = (.bool true) := r4
              replace r5 : u 5 = (.bool true) := r5
              replace r6 : u 6 = (.int .i64 c) := r6
              replace r7 : u 7 = (.bool false) := r7
              replace r8 : u 8 = (.bool false) := r8
              replace r9 : u 9 = (.agg #[.int .i64 vb, .int .u64 vm]) := r9
              replace r10 : u 10 = (.int .i64 (Cw + (c : Int))) := r10
              replace r11 : u 11 = (.agg #[.int .i64 b, .int .u64 m]) := r11
              replace r12 : u 12 = (.int .i64 Cw) := r12
              replace r13 : u 13 = (.int .i64 c) := r13
              replace r14 : u 14 = (.int .i64 (Cw + (c : Int))) := r14
              replace r15 : u 15 = (.bool true) := r15
              replace r16 : u 16 = (.bool true) := r16
              replace r17 : u 17 = (.bool true) := r17
              replace r18 : u 18 = (.bool true) := r18
              replace r19 : u 19 = (.bool true) := r19
              replace r20 : u 20 = (.bool true) := r20
              simp only [mkAct, List.foldl_cons, List.foldl_nil, List.setIfInBounds_toArray, List.set_cons_succ, List.set_cons_zero]
              try simp only [str, r0, r1, r2, r3, r4, r5, r6, r7, r8, r9, r10, r11, r12, r13, r14, r15, r16, r17, r18, r19, r20]
              go_wp2
              go_ret
              exact ⟨rfl, hs.out.trans hI⟩
end Go.Proofs.YtkhloanpdehegaaDoor
