/-
  Who leads: leaders.List, raddleref11.List.
-/
import Derived.Test.YtmacgmmjgdmleaaCfg
import Derived.Test.YtmacgmmjgdmleaaRMac
namespace Go.Proofs.Ytmacgmmjgdmleaa
open Go Go.RowKit
set_option linter.unusedSimpArgs false
set_option linter.unusedVariables false

/-- The leaders of an epoch. -/
def leadOk (c : Cfg) (n : Int) (penal : List Int) : List Int := ((List.range c.nodes.toNat).filter fun i => decide (penOf penal i ≤ n)).map fun i : Nat => (i : Int)
def leadAll (c : Cfg) : List Int := (List.range c.nodes.toNat).map fun i : Nat => (i : Int)
def leads (c : Cfg) (n : Int) (penal : List Int) : List Int :=
  if c.may n then (if ((leadOk c n penal).length : Int) < qsome c.nodes then leadAll c else leadOk c n penal) else []
theorem isT : SlT Try.prog 70 3 (.int .i64 0) 1 8 := ⟨Try.underlying70, by kernel_rfl, rfl, by decide⟩
/-- Numbers in a row of the call's own. -/
def RetI (w : World) (l : List Int) (e : Ending) (w' : World) : Prop := ∃ v, e = .returned v ∧ Own w' w.heap.size 3 1 v l.length (iv l) ∧ Same w w'
/-- The first k numbers of which something holds. -/
def ranked (p : Nat → Bool) (k : Nat) : List Int := ((List.range k).filter p).map fun i : Nat => (i : Int)
theorem ranked_succ (p : Nat → Bool) (k : Nat) : ranked p (k + 1) = if p k then ranked p k ++ [(k : Int)] else ranked p k := by
  unfold ranked
  rw [List.range_succ, List.filter_append, List.map_append]
  cases h : p k <;> simp [h]
theorem ranked_le (p : Nat → Bool) (k : Nat) : (ranked p k).length ≤ k := by
  unfold ranked
  rw [List.length_map]
  have := List.length_filter_le p (List.range k)
  simpa using this
theorem leadOk_eq (c : Cfg) (n : Int) (penal : List Int) : leadOk c n penal = ranked (fun i => decide (penOf penal i ≤ n)) c.nodes.toNat := rfl
theorem leadAll_eq (c : Cfg) : leadAll c = ranked (fun _ => true) c.nodes.toNat := by rw [leadAll, ranked, List.filter_eq_self.2 (fun _ _ => rfl)]
set_option maxRecDepth 100000 in
set_option maxHeartbeats 400000 in
theorem listOk_any (i : Nat) (pb nb : Nat) (ao : Option Addr) (len cap : Nat) (penal : List Int) (n : Int) (w : World) (hsl : Sl w 1 ao len cap (iv penal)) (hpp : w.cell? ⟨pb, 0, none⟩ = some (.slice ao len cap)) (hnn : w.cell? ⟨nb, 0, none⟩ = some (.int .i64 n)) :
    Calls Try.prog 188 #[.int .i64 i, .pointer (some ⟨pb, 0, none⟩), .pointer (some ⟨nb, 0, none⟩)] w fun e w' => e = .returned (.bool (decide (penOf penal i ≤ n))) ∧ Same w w' := by
  have hpn := fun w h => penalty_any ao len cap penal i w h
  obtain ⟨P, hP⟩ : ∃ P, P = penOf penal i := ⟨_, rfl⟩
  rw [← hP] at hpn ⊢
  clear hP
  replace hpn := Lib.hid hpn
  replace hsl := Lib.hid hsl
  replace hpp := Lib.hid hpp
  replace hnn := Lib.hid hnn
  go_enter Try.func188, Try.ntmps188
  go_upto_region 1 with fail
  refine wp_region_tails (by kernel_rfl) [(5, 0), (6, 1), (7, 2), (8, 3)] Same (Same _) [isV (.slice ao len cap), isV (.int .i64 (i : Int)), isV (.int .i64 P), isV (.int .i64 n)] Same.refl.drew (fun _ _ h k => h.trans k) (by simp [isV_stable, isB_stable, isAny_stable]) (by decide) (l := [_, _, _, _]) rfl (by decide) (by kernel_rfl) ?_ ?_
  · refine ⟨?_, ?_, ?_, ?_, trivial⟩
    all_goals (intro u wx hI hp; simp only [mkAct, List.foldl_cons, List.foldl_nil, List.setIfInBounds_toArray, List.set_cons_succ, List.set_cons_zero])
    · -- operation 0
      have cx := hI.cell (hpp.out)
      go_wp2
      refine stq_v rfl Same.refl ?_
      first | (simp only [mkAct, List.foldl_cons, List.foldl_nil, List.setIfInBounds_toArray, List.set_cons_succ, List.set_cons_zero, upd, reduceIte, Nat.reduceEqDiff, Nat.reduceAdd, str]; done) | (simp [mkAct, upd, str, *]; done)
    · -- operation 1
      go_wp2
      refine stq_v rfl Same.refl ?_
      first | (simp only [mkAct, List.foldl_cons, List.foldl_nil, List.setIfInBounds_toArray, List.set_cons_succ, List.set_cons_zero, upd, reduceIte, Nat.reduceEqDiff, Nat.reduceAdd, str]; done) | (simp [mkAct, upd, str, *]; done)
    · -- operation 2
      obtain ⟨f0, f1, -⟩ := hp
      replace f0 : u 0 = (.slice ao len cap) := f0
      replace f1 : u 1 = (.int .i64 (i : Int)) := f1
      try simp only [f0, f1, str]
      go_wp2_with fail
      refine (hpn.out _ (hsl.out.same hI)).mono ?_
      rintro e w1 ⟨rfl, rfl⟩
      go_wp2
      refine stq_v rfl Same.refl ?_
      first | (simp only [mkAct, List.foldl_cons, List.foldl_nil, List.setIfInBounds_toArray, List.set_cons_succ, List.set_cons_zero, upd, reduceIte, Nat.reduceEqDiff, Nat.reduceAdd, f0, f1, str]; done) | (simp [mkAct, upd, f0, f1, str, *]; done)
    · -- operation 3
      have cx := hI.cell (hnn.out)
      go_wp2
      refine stq_v rfl Same.refl ?_
      first | (simp only [mkAct, List.foldl_cons, List.foldl_nil, List.setIfInBounds_toArray, List.set_cons_succ, List.set_cons_zero, upd, reduceIte, Nat.reduceEqDiff, Nat.reduceAdd, str]; done) | (simp [mkAct, upd, str, *]; done)
  · intro u wx hI hR
    obtain ⟨r0, r1, r2, r3, -⟩ := hR
    replace r0 : u 0 = (.slice ao len cap) := r0
    replace r1 : u 1 = (.int .i64 (i : Int)) := r1
    replace r2 : u 2 = (.int .i64 P) := r2
    replace r3 : u 3 = (.int .i64 n) := r3
    simp only [mkAct, List.foldl_cons, List.foldl_nil, List.setIfInBounds_toArray, List.set_cons_succ, List.set_cons_zero]
    try simp only [str, r0, r1, r2, r3]
    go_wp2
    go_ret
    exact ⟨rfl, hI⟩
set_option maxRecDepth 100000 in
set_option maxHeartbeats 800000 in
theorem some_ok (N : Nat) (hN : N ≤ 1000) (pb nb : Nat) (ao : Option Addr) (len cap : Nat) (penal : List Int) (n : Int) (w : World) (hsl : Sl w 1 ao len cap (iv penal)) (hpp : w.cell? ⟨pb, 0, none⟩ = some (.slice ao len cap)) (hnn : w.cell? ⟨nb, 0, none⟩ = some (.int .i64 n)) :
    Calls Try.prog 187 #[.int .i64 N, .func (Fn.func 188) #[] #[.pointer (some ⟨pb, 0, none⟩), .pointer (some ⟨nb, 0, none⟩)]] w (RetI w (ranked (fun i => decide (penOf penal i ≤ n)) N)) := by
  have hcl := fun i w h1 h2 h3 => listOk_any i pb nb ao len cap penal n w h1 h2 h3
  obtain ⟨p, hp'⟩ : ∃ p, p = (fun i => decide (penOf penal i ≤ n)) := ⟨_, rfl⟩
  have hpe : ∀ i : Nat, p i = (fun i => decide (penOf penal i ≤ n)) i := fun i => by rw [hp']
  rw [← hp']
  have hsc := ranked_succ p
  have hle := ranked_le p
  obtain ⟨O, hO⟩ : ∃ O, O = ranked p := ⟨_, rfl⟩
  rw [← hO] at hsc hle ⊢
  have hO0 : O 0 = [] := by rw [hO]; rfl
  clear hO hp'
  replace hsc := Lib.hid hsc
  replace hcl := Lib.hid hcl
  replace hO0 := Lib.hid hO0
  replace hpe := Lib.hid hpe
  replace hsl := Lib.hid hsl
  replace hpp := Lib.hid hpp
  replace hnn := Lib.hid hnn
  go_enter Try.func187, Try.ntmps187
  go_wp2
  go_loopw [7, 4] (fun i v wr => ∃ k : Nat, k ≤ N ∧ i = .int .i64 k ∧ Own wr w.heap.size 3 1 v (O k).length (iv (O k)) ∧ Same w wr) (fun i _ _ => N - (intOf i).toNat)
  case atStart => exact ⟨0, by omega, rfl, by rw [hO0.out]; exact World.ownsRow_nil _ _ _ _, Same.refl⟩
  case round =>
    obtain ⟨k, hk, rfl, ho, hs⟩ := hrel
    by_cases hlt : k < N
    · have hsk := hsc.out k
      have hlk := hle k
      have hc1 := hcl.out k wr (hsl.out.same hs) (hs.cell hpp.out) (hs.cell hnn.out)
      have hpk := hpe.out k
      replace hc1 := hc1.mono (fun e w' h => (show e = .returned (.bool (p k)) ∧ Same wr w' from ⟨by rw [hpk]; exact h.1, h.2⟩))
      have hsz := hs.size
      clear hpk
      replace ho := Lib.hid ho
      replace hs := Lib.hid hs
      cases hb : p k
      all_goals
        try rw [hb] at hsk
        try rw [hb] at hc1
        clear hb
        replace hc1 := Lib.hid hc1
      · have hsk2 : O (k + 1) = O k := hsk
        clear hsk
        replace hsk2 := Lib.hid hsk2
        go_wp2_with fail
        refine hc1.out.mono ?_
        rintro e w1 ⟨rfl, hs1⟩
        have ho1 := ho.out.same hs1
        have hs01 := hs.out.trans hs1
        clear hs1 ho hs hc1
        replace ho1 := Lib.hid ho1
        replace hs01 := Lib.hid hs01
        go_wp2
        go_roundw
        case rel => exact ⟨k + 1, by omega, by go_num, by rw [hsk2.out]; exact ho1.out, hs01.out⟩
        case measure => simp [intOf]; omega
      · have hsk2 : O (k + 1) = O k ++ [(k : Int)] := hsk
        have hl2 : (O (k + 1)).length = (O k).length + 1 := by rw [hsk2]; simp
        clear hsk
        replace hsk2 := Lib.hid hsk2
        replace hl2 := Lib.hid hl2
        go_wp2_with fail
        refine hc1.out.mono ?_
        rintro e w1 ⟨rfl, hs1⟩
        have ho1 := ho.out.same hs1
        have hs01 := hs.out.trans hs1
        have hsz1 := hs01.size
        clear hs1 ho hs hc1
        replace ho1 := Lib.hid ho1
        replace hs01 := Lib.hid hs01
        obtain ⟨m, hm⟩ : ∃ m, m = (O k).length := ⟨_, rfl⟩
        obtain ⟨ov, hov⟩ : ∃ l, l = iv (O k) := ⟨_, rfl⟩
        have ho2 := ho1.out
        rw [← hm, ← hov] at ho2
        rw [← hm] at hlk
        replace ho2 := Lib.hid ho2
        replace hm := Lib.hid hm
        replace hov := Lib.hid hov
        go_wp2_with (at_builtin; refine append_own (l := [.int .i64 (k : Int)]) rfl _ _ rfl isT ho2.out rfl rfl rfl (by simp [Value.oneCell']) hsz1 (by omega) (by omega) ?_; intro v4 w4 ho4 hk4 hz4; clear hz4; replace ho4 := Lib.hid ho4; replace hk4 := Lib.hid hk4)
        go_roundw
        case rel => exact ⟨k + 1, by omega, by go_num, by rw [hl2.out, ← hm.out, hsk2.out, iv_append, ← hov.out]; exact ho4.out, hs01.out.keep hk4.out (fun x hx hv => by have := ho2.out.base x hv; omega)⟩
        case measure => simp [intOf]; omega
    · obtain rfl : k = N := by omega
      go_wp2
      go_ret
      exact ⟨_, rfl, ho, hs⟩
set_option maxRecDepth 100000 in
set_option maxHeartbeats 400000 in
theorem listAll_any (i : Nat) (w : World) : Calls Try.prog 191 #[.int .i64 i] w fun e w' => e = .returned (.bool true) ∧ Same w w' := by
  go_enter Try.func191, Try.ntmps191
  go_wp2
  go_ret
  exact ⟨rfl, Same.refl⟩
set_option maxRecDepth 100000 in
set_option maxHeartbeats 800000 in
theorem some_all (N : Nat) (hN : N ≤ 1000)  (w : World)  :
    Calls Try.prog 187 #[.int .i64 N, .func (Fn.func 191) #[] #[]] w (RetI w (ranked (fun _ => true) N)) := by
  have hcl := fun i w => listAll_any i w
  obtain ⟨p, hp'⟩ : ∃ p, p = (fun _ => true) := ⟨_, rfl⟩
  have hpe : ∀ i : Nat, p i = (fun _ => true) i := fun i => by rw [hp']
  rw [← hp']
  have hsc := ranked_succ p
  have hle := ranked_le p
  obtain ⟨O, hO⟩ : ∃ O, O = ranked p := ⟨_, rfl⟩
  rw [← hO] at hsc hle ⊢
  have hO0 : O 0 = [] := by rw [hO]; rfl
  clear hO hp'
  replace hsc := Lib.hid hsc
  replace hcl := Lib.hid hcl
  replace hO0 := Lib.hid hO0
  replace hpe := Lib.hid hpe
  go_enter Try.func187, Try.ntmps187
  go_wp2
  go_loopw [7, 4] (fun i v wr => ∃ k : Nat, k ≤ N ∧ i = .int .i64 k ∧ Own wr w.heap.size 3 1 v (O k).length (iv (O k)) ∧ Same w wr) (fun i _ _ => N - (intOf i).toNat)
  case atStart => exact ⟨0, by omega, rfl, by rw [hO0.out]; exact World.ownsRow_nil _ _ _ _, Same.refl⟩
  case round =>
    obtain ⟨k, hk, rfl, ho, hs⟩ := hrel
    by_cases hlt : k < N
    · have hsk := hsc.out k
      have hlk := hle k
      have hc1 := hcl.out k wr
      have hpk := hpe.out k
      replace hc1 := hc1.mono (fun e w' h => (show e = .returned (.bool (p k)) ∧ Same wr w' from ⟨by rw [hpk]; exact h.1, h.2⟩))
      have hsz := hs.size
      clear hpk
      replace ho := Lib.hid ho
      replace hs := Lib.hid hs
      cases hb : p k
      all_goals
        try rw [hb] at hsk
        try rw [hb] at hc1
        clear hb
        replace hc1 := Lib.hid hc1
      · have hsk2 : O (k + 1) = O k := hsk
        clear hsk
        replace hsk2 := Lib.hid hsk2
        go_wp2_with fail
        refine hc1.out.mono ?_
        rintro e w1 ⟨rfl, hs1⟩
        have ho1 := ho.out.same hs1
        have hs01 := hs.out.trans hs1
        clear hs1 ho hs hc1
        replace ho1 := Lib.hid ho1
        replace hs01 := Lib.hid hs01
        go_wp2
        go_roundw
        case rel => exact ⟨k + 1, by omega, by go_num, by rw [hsk2.out]; exact ho1.out, hs01.out⟩
        case measure => simp [intOf]; omega
      · have hsk2 : O (k + 1) = O k ++ [(k : Int)] := hsk
        have hl2 : (O (k + 1)).length = (O k).length + 1 := by rw [hsk2]; simp
        clear hsk
        replace hsk2 := Lib.hid hsk2
        replace hl2 := Lib.hid hl2
        go_wp2_with fail
        refine hc1.out.mono ?_
        rintro e w1 ⟨rfl, hs1⟩
        have ho1 := ho.out.same hs1
        have hs01 := hs.out.trans hs1
        have hsz1 := hs01.size
        clear hs1 ho hs hc1
        replace ho1 := Lib.hid ho1
        replace hs01 := Lib.hid hs01
        obtain ⟨m, hm⟩ : ∃ m, m = (O k).length := ⟨_, rfl⟩
        obtain ⟨ov, hov⟩ : ∃ l, l = iv (O k) := ⟨_, rfl⟩
        have ho2 := ho1.out
        rw [← hm, ← hov] at ho2
        rw [← hm] at hlk
        replace ho2 := Lib.hid ho2
        replace hm := Lib.hid hm
        replace hov := Lib.hid hov
        go_wp2_with (at_builtin; refine append_own (l := [.int .i64 (k : Int)]) rfl _ _ rfl isT ho2.out rfl rfl rfl (by simp [Value.oneCell']) hsz1 (by omega) (by omega) ?_; intro v4 w4 ho4 hk4 hz4; clear hz4; replace ho4 := Lib.hid ho4; replace hk4 := Lib.hid hk4)
        go_roundw
        case rel => exact ⟨k + 1, by omega, by go_num, by rw [hl2.out, ← hm.out, hsk2.out, iv_append, ← hov.out]; exact ho4.out, hs01.out.keep hk4.out (fun x hx hv => by have := ho2.out.base x hv; omega)⟩
        case measure => simp [intOf]; omega
    · obtain rfl : k = N := by omega
      go_wp2
      go_ret
      exact ⟨_, rfl, ho, hs⟩
set_option maxRecDepth 100000 in
set_option maxHeartbeats 800000 in
theorem list_any (c : Cfg) (n : Int) (ao : Option Addr) (len cap : Nat) (penal : List Int) (w : World) (hsl : Sl w 1 ao len cap (iv penal)) :
    Calls Try.prog 168 #[.agg c.cells.toArray, .int .i64 n, .slice ao len cap] w (RetI w (leads c n penal)) := by
  have hinfC := Lib.hid (cfg_info c)
  have hm := fun w => may_any c n w
  have hLd : leads c n penal = if c.may n then (if ((leadOk c n penal).length : Int) < qsome c.nodes then leadAll c else leadOk c n penal) else [] := rfl
  obtain ⟨L, hL⟩ : ∃ L, L = leads c n penal := ⟨_, rfl⟩
  rw [← hL] at hLd ⊢
  clear hL
  replace hsl := Lib.hid hsl
  cases hc : c.may n
  · rw [hc] at hm hLd
    have hLd2 : L = [] := hLd
    subst hLd2
    clear hLd hc
    replace hm := Lib.hid hm
    go_enter Try.func168, Try.ntmps168
    go_upto_region 1 with (refine box_row rfl _ _ rfl _ rfl hinfC.out ?_; intro w0 hbx hs0; have hbxl := blk_lt hbx; replace hs0 := Lib.hid hs0; replace hbx := Lib.hid hbx)
    obtain ⟨w1, hw1⟩ : ∃ w1, w1 = w0.alloc (.cells #[.int .i64 n] 3) := ⟨_, rfl⟩
    rw [← hw1]
    obtain ⟨w2, hw2⟩ : ∃ w2, w2 = w1.alloc (.cells #[.slice ao len cap] 70) := ⟨_, rfl⟩
    rw [← hw2]
    have z1 : w1.heap.size = w0.heap.size + 1 := by rw [hw1]; simp
    have b1 : w1.heap[w0.heap.size]? = some (.cells #[.int .i64 n] 3 (0, 0)) := by rw [hw1]; exact heap_alloc_new _ _
    have b2 : w2.heap[w0.heap.size + 1]? = some (.cells #[.slice ao len cap] 70 (0, 0)) := by rw [← z1, hw2]; exact heap_alloc_new _ _
    have s1 : Same w0 w1 := by rw [hw1]; exact Same.refl.alloc _
    have s2 : Same w1 w2 := by rw [hw2]; exact Same.refl.alloc _
    have b12 := (s2.block _ (blk_lt b1)).trans b1
    have bx2 := ((s1.trans s2).block _ hbxl).trans hbx.out
    have hs02 := hs0.out.trans (s1.trans s2)
    clear s1 s2 b1 hw2 hw1 z1 hs0 hbx
    have cn := blk_cell b12 0
    simp at cn
    replace bx2 := Lib.hid bx2
    replace b12 := Lib.hid b12
    replace b2 := Lib.hid b2
    replace hs02 := Lib.hid hs02
    go_wp2_with (refine load_row rfl _ _ rfl w.heap.size rfl _ _ _ _ bx2.out Try.underlying68 rfl hinfC.out ?_)
    refine (hm.out _).mono ?_
    rintro e w3 ⟨rfl, hs3⟩
    go_wp2
    go_ret
    exact ⟨_, rfl, World.ownsRow_nil _ _ _ _, hs02.out.trans hs3⟩
  · rw [hc] at hm hLd
    replace hm := Lib.hid hm
    have hLd2 : L = (if ((leadOk c n penal).length : Int) < qsome c.nodes then leadAll c else leadOk c n penal) := hLd
    clear hLd
    have hg : c.good = true := by rw [Cfg.may] at hc; revert hc; cases c.good <;> simp
    obtain ⟨q1, q2, _⟩ := (qgood_iff c.nodes).1 (by rw [Cfg.good] at hg; revert hg; cases qgood c.nodes <;> simp)
    obtain ⟨N, hN⟩ : ∃ N : Nat, c.nodes = (N : Int) := ⟨c.nodes.toNat, by omega⟩
    have hN64 : N ≤ 1000 := by omega
    rw [leadOk_eq, leadAll_eq, hN, Int.toNat_natCast] at hLd2
    have hok := fun pb nb w h1 h2 h3 => some_ok N hN64 pb nb ao len cap penal n w h1 h2 h3
    have hall := fun w => some_all N hN64 w
    have hqs := fun w => qsome_any (N : Int) w
    obtain ⟨S, hS⟩ : ∃ S, S = ranked (fun i => decide (penOf penal i ≤ n)) N := ⟨_, rfl⟩
    obtain ⟨T, hT⟩ : ∃ T, T = ranked (fun _ => true) N := ⟨_, rfl⟩
    rw [← hS] at hLd2 hok
    rw [← hT] at hLd2 hall
    obtain ⟨m, hml⟩ : ∃ m, m = S.length := ⟨_, rfl⟩
    unfold RetI at hok
    rw [← hml] at hLd2 hok
    obtain ⟨Q, hQ⟩ : ∃ Q, Q = qsome (N : Int) := ⟨_, rfl⟩
    rw [← hQ] at hLd2 hqs
    clear hS hT hQ hc hg q1 q2
    replace hml := Lib.hid hml
    replace hN := Lib.hid hN
    replace hok := Lib.hid hok
    replace hall := Lib.hid hall
    replace hqs := Lib.hid hqs
    by_cases hmq : (m : Int) < Q
    all_goals
      first | rw [if_pos hmq] at hLd2 | rw [if_neg hmq] at hLd2
      subst hLd2
      go_enter Try.func168, Try.ntmps168
      go_upto_region 1 with (refine box_row rfl _ _ rfl _ rfl hinfC.out ?_; intro w0 hbx hs0; have hbxl := blk_lt hbx; replace hs0 := Lib.hid hs0; replace hbx := Lib.hid hbx)
      obtain ⟨w1, hw1⟩ : ∃ w1, w1 = w0.alloc (.cells #[.int .i64 n] 3) := ⟨_, rfl⟩
      rw [← hw1]
      obtain ⟨w2, hw2⟩ : ∃ w2, w2 = w1.alloc (.cells #[.slice ao len cap] 70) := ⟨_, rfl⟩
      rw [← hw2]
      have z1 : w1.heap.size = w0.heap.size + 1 := by rw [hw1]; simp
      have b1 : w1.heap[w0.heap.size]? = some (.cells #[.int .i64 n] 3 (0, 0)) := by rw [hw1]; exact heap_alloc_new _ _
      have b2 : w2.heap[w0.heap.size + 1]? = some (.cells #[.slice ao len cap] 70 (0, 0)) := by rw [← z1, hw2]; exact heap_alloc_new _ _
      have s1 : Same w0 w1 := by rw [hw1]; exact Same.refl.alloc _
      have s2 : Same w1 w2 := by rw [hw2]; exact Same.refl.alloc _
      have b12 := (s2.block _ (blk_lt b1)).trans b1
      have bx2 := ((s1.trans s2).block _ hbxl).trans hbx.out
      have hs02 := hs0.out.trans (s1.trans s2)
      clear s1 s2 b1 hw2 hw1 z1 hs0 hbx
      have cn := blk_cell b12 0
      simp at cn
      replace bx2 := Lib.hid bx2
      replace b12 := Lib.hid b12
      replace b2 := Lib.hid b2
      replace hs02 := Lib.hid hs02
      go_wp2_with (refine load_row rfl _ _ rfl w.heap.size rfl _ _ _ _ bx2.out Try.underlying68 rfl hinfC.out ?_)
      refine (hm.out _).mono ?_
      rintro e w3 ⟨rfl, hs3⟩
      have hb3 := (hs3.block _ (blk_lt bx2.out)).trans bx2.out
      have c0 : w3.cell? ⟨w.heap.size, 0, none⟩ = some (.int .i64 (N : Int)) := by rw [← hN.out]; exact cfg_cell hb3 0 (by omega)
      have hok1 := hok.out (w0.heap.size + 1) w0.heap.size w3 ((hsl.out.same hs02.out).same hs3) (hs3.cell (by simpa using blk_cell b2.out 0)) (hs3.cell cn)
      have hs03 := hs02.out.trans hs3
      have hb3l := blk_lt hb3
      clear hs3
      replace hb3 := Lib.hid hb3
      replace hok1 := Lib.hid hok1
      replace hs03 := Lib.hid hs03
      go_wp2_with fail
      refine hok1.out.mono ?_
      rintro e w4 ⟨v4, rfl, ho4, hs4⟩
      obtain ⟨so, sc, rfl, _⟩ := ho4.sl
      have hb4 := (hs4.block _ hb3l).trans hb3.out
      have c04 : w4.cell? ⟨w.heap.size, 0, none⟩ = some (.int .i64 (N : Int)) := by rw [← hN.out]; exact cfg_cell hb4 0 (by omega)
      have hs04 := hs03.out.trans hs4
      have hsz3 := hs03.out.size
      have ho4' := ho4.lower hsz3
      clear hb4 hs4 hb3 hok1 c0 hs03 ho4
      replace hs04 := Lib.hid hs04
      replace ho4' := Lib.hid ho4'
      go_wp2_with fail
      refine (hqs.out _).mono ?_
      rintro e w5 ⟨rfl, rfl⟩
      first
        | (go_wp2_with fail
           refine (hall.out _).mono ?_
           rintro e w6 ⟨v6, rfl, ho6, hs6⟩
           go_wp2
           go_ret
           exact ⟨_, rfl, ho6.lower hs04.out.size, hs04.out.trans hs6⟩)
        | (go_wp2
           go_ret
           exact ⟨_, rfl, by rw [← hml.out]; exact ho4'.out, hs04.out⟩)
set_option maxRecDepth 100000 in
set_option maxHeartbeats 1600000 in
theorem rlist_any (c : Cfg) (n : Int) (ao : Option Addr) (len cap : Nat) (penal : List Int) (w : World) (hsl : Sl w 1 ao len cap (iv penal)) :
    Calls Try.prog 175 #[.agg c.cells.toArray, .int .i64 n, .slice ao len cap] w (RetI w (leads c n penal)) := by
  have hinfC := Lib.hid (cfg_info c)
  have hm := fun w => rmay_any c n w
  have hLd : leads c n penal = if c.may n then (if ((leadOk c n penal).length : Int) < qsome c.nodes then leadAll c else leadOk c n penal) else [] := rfl
  obtain ⟨L, hL⟩ : ∃ L, L = leads c n penal := ⟨_, rfl⟩
  rw [← hL] at hLd ⊢
  clear hL
  replace hsl := Lib.hid hsl
  cases hc : c.may n
  · rw [hc] at hm hLd
    have hLd2 : L = [] := hLd
    subst hLd2
    clear hLd hc
    replace hm := Lib.hid hm
    go_enter Try.func175, Try.ntmps175
    go_upto_region 1 with (refine box_row rfl _ _ rfl _ rfl hinfC.out ?_; intro w0 hbx hs0; replace hs0 := Lib.hid hs0; replace hbx := Lib.hid hbx)
    go_wp2_with (refine load_row rfl _ _ rfl w.heap.size rfl _ _ _ _ hbx.out Try.underlying68 rfl hinfC.out ?_)
    refine (hm.out _).mono ?_
    rintro e w3 ⟨rfl, hs3⟩
    go_wp2
    go_ret
    exact ⟨_, rfl, World.ownsRow_nil _ _ _ _, hs0.out.trans hs3⟩
  · rw [hc] at hm hLd
    replace hm := Lib.hid hm
    have hLd2 : L = (if ((leadOk c n penal).length : Int) < qsome c.nodes then leadAll c else leadOk c n penal) := hLd
    clear hLd
    have hg : c.good = true := by rw [Cfg.may] at hc; revert hc; cases c.good <;> simp
    obtain ⟨q1, q2, _⟩ := (qgood_iff c.nodes).1 (by rw [Cfg.good] at hg; revert hg; cases qgood c.nodes <;> simp)
    obtain ⟨N, hN⟩ : ∃ N : Nat, c.nodes = (N : Int) := ⟨c.nodes.toNat, by omega⟩
    have hN64 : N ≤ 1000 := by omega
    rw [leadOk_eq, leadAll_eq, hN, Int.toNat_natCast] at hLd2
    have hqs := fun w => rqsome_any (N : Int) w
    have hpn := fun i w h => rpenalty_any ao len cap penal i w h
    obtain ⟨p, hp'⟩ : ∃ p : Nat → Bool, p = fun i => decide (penOf penal i ≤ n) := ⟨_, rfl⟩
    have hpe : ∀ i : Nat, p i = decide (penOf penal i ≤ n) := fun i => by rw [hp']
    rw [← hp'] at hLd2
    have hs1c := ranked_succ p
    have hs2c := ranked_succ (fun _ => true)
    have hl1 := ranked_le p
    have hl2 := ranked_le (fun _ => true)
    obtain ⟨S, hS⟩ : ∃ S, S = ranked p := ⟨_, rfl⟩
    obtain ⟨T, hT⟩ : ∃ T, T = ranked (fun _ => true) := ⟨_, rfl⟩
    rw [← hS] at hLd2 hs1c hl1
    rw [← hT] at hLd2 hs2c hl2
    have hS0 : S 0 = [] := by rw [hS]; rfl
    have hT0 : T 0 = [] := by rw [hT]; rfl
    obtain ⟨Q, hQ⟩ : ∃ Q, Q = qsome (N : Int) := ⟨_, rfl⟩
    rw [← hQ] at hLd2 hqs
    clear hS hT hQ hc hg q1 q2 hp'
    replace hN := Lib.hid hN
    replace hqs := Lib.hid hqs
    replace hpn := Lib.hid hpn
    replace hpe := Lib.hid hpe
    replace hs1c := Lib.hid hs1c
    replace hs2c := Lib.hid hs2c
    replace hS0 := Lib.hid hS0
    replace hT0 := Lib.hid hT0
    replace hLd2 := Lib.hid hLd2
    go_enter Try.func175, Try.ntmps175
    go_upto_region 1 with (refine box_row rfl _ _ rfl _ rfl hinfC.out ?_; intro w0 hbx hs0; have hbxl := blk_lt hbx; replace hs0 := Lib.hid hs0; replace hbx := Lib.hid hbx)
    go_wp2_with (refine load_row rfl _ _ rfl w.heap.size rfl _ _ _ _ hbx.out Try.underlying68 rfl hinfC.out ?_)
    refine (hm.out _).mono ?_
    rintro e w3 ⟨rfl, hs3⟩
    have hb3 := (hs3.block _ hbxl).trans hbx.out
    have hs03 := hs0.out.trans hs3
    clear hs3 hs0 hbx
    replace hb3 := Lib.hid hb3
    replace hs03 := Lib.hid hs03
    go_wp2
    go_loopw [9, 7, 8] (fun i v7 v8 wr => ∃ k : Nat, k ≤ N ∧ i = .int .i64 k ∧ Own wr w3.heap.size 3 1 v7 (S k).length (iv (S k)) ∧ Own wr w3.heap.size 3 1 v8 (T k).length (iv (T k)) ∧ (∀ b, v7.ownBlock = some b → v8.ownBlock ≠ some b) ∧ Same w3 wr) (fun i _ _ _ => N - (intOf i).toNat)
    case atStart => exact ⟨0, by omega, rfl, by rw [hS0.out]; exact World.ownsRow_nil _ _ _ _, by rw [hT0.out]; exact World.ownsRow_nil _ _ _ _, fun b h => (by cases h), Same.refl⟩
    case round =>
      rename_i v7 v8
      obtain ⟨k, hk, rfl, ho7, ho8, hne, hs⟩ := hrel
      have hbr := (hs.block _ (blk_lt hb3.out)).trans hb3.out
      have c0 : wr.cell? ⟨w.heap.size, 0, none⟩ = some (.int .i64 (N : Int)) := by rw [← hN.out]; exact cfg_cell hbr 0 (by omega)
      clear hbr
      by_cases hlt : k < N
      · have hsz := hs.size
        have hl1k := hl1 k
        have hl2k := hl2 k
        have hT1 : T (k + 1) = T k ++ [(k : Int)] := hs2c.out k
        have hT1l : (T (k + 1)).length = (T k).length + 1 := by rw [hT1]; simp
        obtain ⟨m8, hm8⟩ : ∃ m, m = (T k).length := ⟨_, rfl⟩
        obtain ⟨o8, ho8'⟩ : ∃ l, l = iv (T k) := ⟨_, rfl⟩
        rw [← hm8, ← ho8'] at ho8
        rw [← hm8] at hl2k
        obtain ⟨m7, hm7⟩ : ∃ m, m = (S k).length := ⟨_, rfl⟩
        obtain ⟨o7, ho7'⟩ : ∃ l, l = iv (S k) := ⟨_, rfl⟩
        rw [← hm7, ← ho7'] at ho7
        rw [← hm7] at hl1k
        replace ho8 := Lib.hid ho8
        replace ho7 := Lib.hid ho7
        replace hm8 := Lib.hid hm8
        replace ho8' := Lib.hid ho8'
        replace hm7 := Lib.hid hm7
        replace ho7' := Lib.hid ho7'
        replace hT1 := Lib.hid hT1
        replace hT1l := Lib.hid hT1l
        replace hne := Lib.hid hne
        replace hs := Lib.hid hs
        go_wp2_with (at_builtin; refine append_own (l := [.int .i64 (k : Int)]) rfl _ _ rfl isT ho8.out rfl rfl rfl (by simp [Value.oneCell']) hsz (by omega) (by omega) ?_; intro v8b w4 ho8b hk8 hz8; replace ho8b := Lib.hid ho8b; replace hk8 := Lib.hid hk8; replace hz8 := Lib.hid hz8)
        have hs4 : Same w3 w4 := hs.out.keep hk8.out (fun x hx hv => by have := ho8.out.base x hv; omega)
        have ho74 := ho7.out.keep hk8.out (fun b hb hb2 => hne.out b hb hb2)
        have hne4 : ∀ b, u7.ownBlock = some b → v8b.ownBlock ≠ some b := by
          intro b hb hb2
          rcases hz8.out b hb2 with h | h
          · exact hne.out b hb h
          · have := ho7.out.lt b hb
            omega
        have hpn4 := hpn.out k w4 ((hsl.out.same hs03.out).same hs4)
        have hpk := hpe.out k
        obtain ⟨P, hP⟩ : ∃ P, P = penOf penal k := ⟨_, rfl⟩
        rw [← hP] at hpn4 hpk
        have hS1 := hs1c.out k
        have hsz4 := hs4.size
        clear hP hs hk8 ho7 hz8 hne c0
        replace hpn4 := Lib.hid hpn4
        replace hs4 := Lib.hid hs4
        replace ho74 := Lib.hid ho74
        replace hne4 := Lib.hid hne4
        by_cases hPn : P ≤ n
        · have hS2 : S (k + 1) = S k ++ [(k : Int)] := by rw [hS1, hpk, decide_eq_true hPn]; rfl
          have hS2l : (S (k + 1)).length = (S k).length + 1 := by rw [hS2]; simp
          clear hS1 hpk
          replace hS2 := Lib.hid hS2
          replace hS2l := Lib.hid hS2l
          go_wp2_with fail
          refine hpn4.out.mono ?_
          rintro e w5 ⟨rfl, rfl⟩
          go_wp2_with (at_builtin; refine append_own (l := [.int .i64 (k : Int)]) rfl _ _ rfl isT ho74.out rfl rfl rfl (by simp [Value.oneCell']) hsz4 (by omega) (by omega) ?_; intro v7b w6 ho7b hk7 hz7; replace ho7b := Lib.hid ho7b; replace hk7 := Lib.hid hk7; replace hz7 := Lib.hid hz7)
          go_roundw
          case rel =>
            refine ⟨k + 1, by omega, by go_num, ?_, ?_, ?_, hs4.out.keep hk7.out (fun x hx hv => by have := ho74.out.base x hv; omega)⟩
            · rw [hS2l.out, ← hm7.out, hS2.out, iv_append, ← ho7'.out]
              exact ho7b.out
            · rw [hT1l.out, ← hm8.out, hT1.out, iv_append, ← ho8'.out]
              exact ho8b.out.keep hk7.out (fun b hb hb2 => hne4.out b hb2 hb)
            · intro b hb hb2
              rcases hz7.out b hb with h | h
              · exact hne4.out b h hb2
              · have := ho8b.out.lt b hb2
                omega
          case measure => simp [intOf]; omega
        · have hS2 : S (k + 1) = S k := by rw [hS1, hpk, decide_eq_false hPn]; rfl
          clear hS1 hpk
          replace hS2 := Lib.hid hS2
          go_wp2_with fail
          refine hpn4.out.mono ?_
          rintro e w5 ⟨rfl, rfl⟩
          go_wp2
          go_roundw
          case rel =>
            refine ⟨k + 1, by omega, by go_num, ?_, ?_, hne4.out, hs4.out⟩
            · rw [hS2.out, ← hm7.out, ← ho7'.out]
              exact ho74.out
            · rw [hT1l.out, ← hm8.out, hT1.out, iv_append, ← ho8'.out]
              exact ho8b.out
          case measure => simp [intOf]; omega
      · obtain rfl : k = N := by omega
        have hLd3 := hLd2.out
        obtain ⟨so, sc, rfl, _⟩ := ho7.sl
        have hszF := hs03.out.size
        obtain ⟨m7, hm7⟩ : ∃ m, m = (S k).length := ⟨_, rfl⟩
        have ho7' := ho7.lower hszF
        rw [← hm7] at hLd3
        rw [← hm7]
        have ho8' := ho8.lower hszF
        have hs' := hs03.out.trans hs
        clear hs ho7 ho8 hne
        replace hm7 := Lib.hid hm7
        replace ho7' := Lib.hid ho7'
        replace ho8' := Lib.hid ho8'
        replace hs' := Lib.hid hs'
        by_cases hmq : (m7 : Int) < Q
        · rw [if_pos hmq] at hLd3
          replace hLd3 := Lib.hid hLd3
          go_wp2_with fail
          refine (hqs.out _).mono ?_
          rintro e w5 ⟨rfl, rfl⟩
          go_wp2
          go_ret
          exact ⟨_, rfl, by rw [hLd3.out]; exact ho8'.out, hs'.out⟩
        · rw [if_neg hmq] at hLd3
          replace hLd3 := Lib.hid hLd3
          go_wp2_with fail
          refine (hqs.out _).mono ?_
          rintro e w5 ⟨rfl, rfl⟩
          go_wp2
          go_ret
          exact ⟨_, rfl, by rw [hLd3.out, hm7.out]; exact ho7'.out, hs'.out⟩
end Go.Proofs.Ytmacgmmjgdmleaa
