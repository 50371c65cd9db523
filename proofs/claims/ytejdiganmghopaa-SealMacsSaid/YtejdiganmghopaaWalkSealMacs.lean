/-
  The walk of the law SealMacs: any key's mac of any bytes is the document's, however they are cut in two.
-/
-- @law bytes, bytes, bytes
import Derived.Test.YtejdiganmghopaaRMac
import Derived.Test.YtejdiganmghopaaLives4
import Derived.Test.YtejdiganmghopaaEq
import Derived.Test.YtejdiganmghopaaCut
import Derived.Test.YtejdiganmghopaaMut
import Derived.Deep.DeepCutAuto
namespace Go.Proofs.Ytejdiganmghopaa
open Go Go.RowKit
set_option linter.unusedSimpArgs false
set_option linter.unusedVariables false

set_option maxRecDepth 100000 in
set_option maxHeartbeats 400000 in
theorem macs_big (ko : Option Addr) (kn kc : Nat) (ao : Option Addr) (an ac : Nat) (bo : Option Addr) (bn bc : Nat) (w : World) (h : 2000 < kn ∨ kn ≤ 2000 ∧ 2000 < an ∨ kn ≤ 2000 ∧ an ≤ 2000 ∧ 2000 < bn) :
    Calls Try.prog 3 #[.slice ko kn kc, .slice ao an ac, .slice bo bn bc] w fun e w' => e = .returned (.bool true) ∧ Same w w' := by
  have hl := Lib.hid lives4
  rcases h with h | ⟨h, h'⟩ | ⟨h, h', h''⟩
  all_goals
    go_enter Try.func3, Try.ntmps3
    go_wp2_with fail
    refine (hl.out _).mono ?_
    rintro e w2 ⟨rfl, hs2⟩
    go_wp2
    go_ret
    exact ⟨rfl, hs2⟩
set_option maxRecDepth 100000 in
set_option maxHeartbeats 3200000 in
theorem macs_main (ko : Option Addr) (kn kc : Nat) (key : List UInt8) (ao : Option Addr) (an ac : Nat) (a : List UInt8) (bo : Option Addr) (bn bc : Nat) (b : List UInt8) (w : World) (hk : Sl w 1 ko kn kc (bv key)) (ha : Sl w 1 ao an ac (bv a)) (hb : Sl w 1 bo bn bc (bv b)) (h1 : kn ≤ 2000) (h2 : an ≤ 2000) (h3 : bn ≤ 2000) :
    Calls Try.prog 3 #[.slice ko kn kc, .slice ao an ac, .slice bo bn bc] w fun e w' => e = .returned (.bool true) ∧ Same w w' := by
  have hl := lives4
  have hal : a.length = an := by have := ha.len; rw [bv_length] at this; omega
  have hbl : b.length = bn := by have := hb.len; rw [bv_length] at this; omega
  have hmac := fun w ko kc hk po vs hsl hp => mac_any w ko kn kc key hk (by omega) po 2 2 vs [a, b] hsl hp (by simp; omega) (by omega)
  rw [show [a, b].flatten = a ++ b from by simp] at hmac
  have hrm := fun bo bc w hk hb => rmac_any ko kn kc key bo (an + bn) bc (a ++ b) w hk (by omega) hb (by omega)
  have e1 := fun w => dig_eql (Sha.mac key (a ++ b)) (Sha.mac key (a ++ b)) (by rw [Sha.mac_eq, Sha.sum_length]) (by rw [Sha.mac_eq, Sha.sum_length]) w
  rw [show ((Sha.mac key (a ++ b) == Sha.mac key (a ++ b)) = true) from by simp] at e1
  have hinf := Lib.hid (dig_info (show (Sha.mac key (a ++ b)).length = 32 by rw [Sha.mac_eq, Sha.sum_length]))
  obtain ⟨M, hM⟩ : ∃ M, M = Sha.mac key (a ++ b) := ⟨_, rfl⟩
  rw [← hM] at hmac hrm e1 hinf
  have hMl : M.length = 32 := by rw [hM, Sha.mac_eq, Sha.sum_length]
  clear hM
  replace hl := Lib.hid hl
  replace hk := Lib.hid hk
  replace ha := Lib.hid ha
  replace hb := Lib.hid hb
  replace hal := Lib.hid hal
  replace hbl := Lib.hid hbl
  replace hmac := Lib.hid hmac
  replace hrm := Lib.hid hrm
  replace e1 := Lib.hid e1
  replace hMl := Lib.hid hMl
  have hown := Own.empty w 5 1
  have hk0 := hk.out.same (Same.alloc Same.refl (.cells #[] 5))
  replace hk0 := Lib.hid hk0
  replace hown := Lib.hid hown
  go_enter Try.func3, Try.ntmps3
  go_upto_region 4 with (at_builtin; refine append_sl rfl _ _ rfl byT hown.out rfl rfl hk0.out bv_cell (by simp) (by omega) (by omega) ?_; intro v1 w1 ho1 hk1 hz1; clear hz1)
  have hsz1 := hk1.size
  have hs1 : Same w w1 := (Same.alloc Same.refl (.cells #[] 5)).keep hk1 (fun x hx hv => by simp [Value.ownBlock] at hv; omega)
  have ho1' : Own w1 w.heap.size 5 1 v1 kn (bv key) := by rw [Nat.zero_add, List.nil_append] at ho1; exact ho1
  obtain ⟨oo, oc, rfl, hosl⟩ := ho1'.sl
  have ha1 := ha.out.same hs1
  have hb1 := hb.out.same hs1
  clear ho1 ho1' hk1 hown hk0
  have hbx := sl_box (w := w1) (e := 22) [.slice ao an ac, .slice bo bn bc] 2 rfl (by unfold maxLen; omega)
  have hpx := (Sls.cons ha1 (Sls.cons hb1 (Sls.nil w1))).box (e := 22)
  have hm := hmac.out _ _ _ (hosl.same (Same.refl.alloc (.cells #[.slice ao an ac, .slice bo bn bc] 22))) _ _ hbx hpx
  clear hbx hpx ha1 hb1 hmac
  replace hm := Lib.hid hm
  replace hosl := Lib.hid hosl
  replace hs1 := Lib.hid hs1
  go_wp2_with fail
  refine hm.out.mono ?_
  rintro e w2 ⟨rfl, hs2⟩
  have hs02 := hs1.out.trans ((Same.refl.alloc _).trans hs2)
  have ho2 := (hosl.out.same ((Same.refl.alloc _).trans hs2))
  clear hs2 hosl hs1 hm
  replace hs02 := Lib.hid hs02
  replace ho2 := Lib.hid ho2
  go_upto_region 5 with (first | (refine alloc_new rfl 25 rfl (bv (List.replicate 32 0)).toArray (by kernel_rfl) ?_; intro w3 hb3 hs3; have hb3l := blk_lt hb3; replace hb3 := Lib.hid hb3; replace hs3 := Lib.hid hs3) | (refine store_row rfl _ _ _ rfl w2.heap.size _ rfl rfl _ _ hb3.out hinf.out (by rw [List.size_toArray, List.size_toArray, bv_length, bv_length, hMl.out]; rfl) (by simpa using bv_cell) ?_; intro w4 hb4 hk4))
  have hs24 : Same w2 w4 := hs3.out.keep hk4 (fun x hx hv => by omega)
  have hs04 := hs02.out.trans hs24
  have ho4 := ho2.out.same hs24
  have ha4 := ha.out.same hs04
  have hb4' := hb.out.same hs04
  have hk4' := hk.out.same hs04
  have hb4l := blk_lt hb4
  clear hs24 hk4 hb3 hs3 hs02 ho2 ha hb hk
  replace hs04 := Lib.hid hs04
  replace ho4 := Lib.hid ho4
  replace ha4 := Lib.hid ha4
  replace hb4' := Lib.hid hb4'
  replace hk4' := Lib.hid hk4'
  replace hb4 := Lib.hid hb4
  go_simp
  refine wp_region_mut (by kernel_rfl) [(31, 0), (32, 1), (33, 2), (34, 3), (35, 4), (36, 5), (37, 6), (38, 7), (39, 8), (40, 9), (41, 10), (42, 11), (43, 12), (44, 13), (45, 14), (46, 15), (47, 16), (48, 17), (49, 18)] [4, 6] [2, 4, 6] [0, 1, 3, 5, 6, 7, 8, 9, 10, 11, 12, 13, 14, 15, 16, 17, 18] [[], [], [], [], [2, 3], [], [4, 5], [1, 6], [0, 7], [8], [9], [10, 9], [9], [12, 9], [11, 13, 9], [9, 14], [15], [16], [16, 17]] Same (fun w w' => Keep (fun k => w4.heap.size ≤ k) w w') (Same _) (fun _ => True) [isV (.agg (bv M).toArray), isV (.slice ko kn kc), isOwn w4.heap.size 0 [], isV (.slice ao an ac), isOwn w4.heap.size an (bv a), isV (.slice bo bn bc), isOwn w4.heap.size (an + bn) (bv (a ++ b)), isV (.agg (bv M).toArray), isV (.bool true), isV (.bool true), isV (.slice oo kn oc), isV (str key), isV (.slice ko kn kc), isV (str key), isV (.bool true), isV (.bool true), isV (.bool true), isV (.bool true), isV (.bool true)] (Same.refl.drew) trivial (fun _ _ h k => h.trans k) ((fun _ _ h k => h.keep k (fun x hx hv => by omega))) (by simp [isV_stable, isB_stable, isAny_stable, isOwn_stable]) (fun _ _ _ h => h) (stableK (by simp [List.zipIdx_cons, isV_stable, isAny_stable])) (by decide) (l := [_, _, _, _, _, _, _, _, _, _, _, _, _, _, _, _, _, _, _]) rfl (by decide) (by kernel_rfl) (by decide) (by kernel_rfl) (by kernel_rfl) (by decide) ?_ ?_
  · refine ⟨?_, ?_, ?_, ?_, ?_, ?_, ?_, ?_, ?_, ?_, ?_, ?_, ?_, ?_, ?_, ?_, ?_, ?_, ?_, trivial⟩
    all_goals (intro u wx hI hp; simp only [mkAct, List.foldl_cons, List.foldl_nil, List.setIfInBounds_toArray, List.set_cons_succ, List.set_cons_zero])
    · -- operation 0
      go_wp2_with (refine load_row rfl _ _ rfl w2.heap.size rfl _ _ _ _ ((hI.block _ hb4l).trans hb4.out) Try.underlying25 rfl hinf.out ?_)
      refine stg_v (x := (.agg (bv M).toArray)) rfl Same.refl ?_
      first | (simp only [mkAct, List.foldl_cons, List.foldl_nil, List.setIfInBounds_toArray, List.set_cons_succ, List.set_cons_zero, upd, reduceIte, Nat.reduceEqDiff, Nat.reduceAdd, str]; done) | (simp [mkAct, upd, str, *]; done)
    · -- operation 1
      go_wp2
      refine stg_v (x := (.slice ko kn kc)) rfl Same.refl ?_
      first | (simp only [mkAct, List.foldl_cons, List.foldl_nil, List.setIfInBounds_toArray, List.set_cons_succ, List.set_cons_zero, upd, reduceIte, Nat.reduceEqDiff, Nat.reduceAdd, str]; done) | (simp [mkAct, upd, str, *]; done)
    · -- operation 2
      go_wp2
      refine stg_v (x := (.slice (some ⟨wx.heap.size, 0, none⟩) 0 0)) ((Own.empty wx 5 1).lower hI.size) (Same.refl.alloc _) ?_
      first | (simp only [mkAct, List.foldl_cons, List.foldl_nil, List.setIfInBounds_toArray, List.set_cons_succ, List.set_cons_zero, upd, reduceIte, Nat.reduceEqDiff, Nat.reduceAdd, str]; done) | (simp [mkAct, upd, str, *]; done)
    · -- operation 3
      go_wp2
      refine stg_v (x := (.slice ao an ac)) rfl Same.refl ?_
      first | (simp only [mkAct, List.foldl_cons, List.foldl_nil, List.setIfInBounds_toArray, List.set_cons_succ, List.set_cons_zero, upd, reduceIte, Nat.reduceEqDiff, Nat.reduceAdd, str]; done) | (simp [mkAct, upd, str, *]; done)
    · -- operation 4
      obtain ⟨f2, f3, -⟩ := hp
      replace f3 : u 3 = (.slice ao an ac) := f3
      try simp only [f3, str]
      replace f2 : Own wx w4.heap.size 5 1 (u 2) 0 [] := f2
      have f2h := Lib.hid f2
      clear f2
      go_wp2_with (at_builtin; refine append_sl rfl _ _ rfl byT f2h.out rfl rfl (ha4.out.same hI) bv_cell hI.size (by omega) (by omega) ?_; intro v5 w5 ho5 hk5 hz5; clear hz5; rw [Nat.zero_add, List.nil_append] at ho5)
      refine stg_v (x := v5) ho5 (hk5.mono (fun x hx hv => f2h.out.base x hv)) ?_
      first | (simp only [mkAct, List.foldl_cons, List.foldl_nil, List.setIfInBounds_toArray, List.set_cons_succ, List.set_cons_zero, upd, reduceIte, Nat.reduceEqDiff, Nat.reduceAdd, f3, str]; done) | (simp [mkAct, upd, f3, str, *]; done)
    · -- operation 5
      go_wp2
      refine stg_v (x := (.slice bo bn bc)) rfl Same.refl ?_
      first | (simp only [mkAct, List.foldl_cons, List.foldl_nil, List.setIfInBounds_toArray, List.set_cons_succ, List.set_cons_zero, upd, reduceIte, Nat.reduceEqDiff, Nat.reduceAdd, str]; done) | (simp [mkAct, upd, str, *]; done)
    · -- operation 6
      obtain ⟨f4, f5, -⟩ := hp
      replace f5 : u 5 = (.slice bo bn bc) := f5
      try simp only [f5, str]
      replace f4 : Own wx w4.heap.size 5 1 (u 4) an (bv a) := f4
      have f4h := Lib.hid f4
      clear f4
      go_wp2_with (at_builtin; refine append_sl rfl _ _ rfl byT f4h.out rfl rfl (hb4'.out.same hI) bv_cell hI.size (by omega) (by omega) ?_; intro v5 w5 ho5 hk5 hz5; clear hz5; rw [← bv_append] at ho5)
      refine stg_v (x := v5) ho5 (hk5.mono (fun x hx hv => f4h.out.base x hv)) ?_
      first | (simp only [mkAct, List.foldl_cons, List.foldl_nil, List.setIfInBounds_toArray, List.set_cons_succ, List.set_cons_zero, upd, reduceIte, Nat.reduceEqDiff, Nat.reduceAdd, f5, str]; done) | (simp [mkAct, upd, f5, str, *]; done)
    · -- operation 7
      obtain ⟨f1, f6, -⟩ := hp
      replace f1 : u 1 = (.slice ko kn kc) := f1
      try simp only [f1, str]
      replace f6 : Own wx w4.heap.size 5 1 (u 6) (an + bn) (bv (a ++ b)) := f6
      obtain ⟨po, pc, hp, hpsl⟩ := f6.sl
      clear f6
      simp only [hp]
      replace hp := Lib.hid hp
      replace hpsl := Lib.hid hpsl
      go_wp2_with fail
      refine (hrm.out _ _ _ (hk4'.out.same hI) hpsl.out).mono ?_
      rintro e w1 ⟨rfl, hs'⟩
      go_wp2
      replace hp := hp.out
      refine stg_v (x := (.agg (bv M).toArray)) rfl hs' ?_
      first | (simp only [mkAct, List.foldl_cons, List.foldl_nil, List.setIfInBounds_toArray, List.set_cons_succ, List.set_cons_zero, upd, reduceIte, Nat.reduceEqDiff, Nat.reduceAdd, f1, str]; done) | (simp [mkAct, upd, f1, str, *]; done)
    · -- operation 8
      obtain ⟨f0, f7, -⟩ := hp
      replace f0 : u 0 = (.agg (bv M).toArray) := f0
      replace f7 : u 7 = (.agg (bv M).toArray) := f7
      try simp only [f0, f7, str]
      have e1 := e1.out
      have hgd := dig_guard
      go_wp2
      refine stg_v (x := (.bool true)) rfl Same.refl ?_
      first | (simp only [mkAct, List.foldl_cons, List.foldl_nil, List.setIfInBounds_toArray, List.set_cons_succ, List.set_cons_zero, upd, reduceIte, Nat.reduceEqDiff, Nat.reduceAdd, f0, f7, str]; done) | (simp [mkAct, upd, f0, f7, str, *]; done)
    · -- operation 9
      obtain ⟨f8, -⟩ := hp
      replace f8 : u 8 = (.bool true) := f8
      try simp only [f8, str]
      go_wp2
      refine stg_v (x := (.bool true)) rfl Same.refl ?_
      first | (simp only [mkAct, List.foldl_cons, List.foldl_nil, List.setIfInBounds_toArray, List.set_cons_succ, List.set_cons_zero, upd, reduceIte, Nat.reduceEqDiff, Nat.reduceAdd, f8, str]; done) | (simp [mkAct, upd, f8, str, *]; done)
    · -- operation 10
      obtain ⟨f9, -⟩ := hp
      replace f9 : u 9 = (.bool true) := f9
      try simp only [f9, str]
      go_wp2
      refine stg_v (x := (.slice oo kn oc)) rfl Same.refl ?_
      first | (simp only [mkAct, List.foldl_cons, List.foldl_nil, List.setIfInBounds_toArray, List.set_cons_succ, List.set_cons_zero, upd, reduceIte, Nat.reduceEqDiff, Nat.reduceAdd, f9, str]; done) | (simp [mkAct, upd, f9, str, *]; done)
    · -- operation 11
      obtain ⟨f10, f9, -⟩ := hp
      replace f10 : u 10 = (.slice oo kn oc) := f10
      replace f9 : u 9 = (.bool true) := f9
      try simp only [f10, f9, str]
      go_wp2_with (refine conv_string rfl _ rfl byT u8T strT rfl (ho4.out.same hI) ?_)
      refine stg_v (x := (str key)) rfl Same.refl ?_
      first | (simp only [mkAct, List.foldl_cons, List.foldl_nil, List.setIfInBounds_toArray, List.set_cons_succ, List.set_cons_zero, upd, reduceIte, Nat.reduceEqDiff, Nat.reduceAdd, f10, f9, str]; done) | (simp [mkAct, upd, f10, f9, str, *]; done)
    · -- operation 12
      obtain ⟨f9, -⟩ := hp
      replace f9 : u 9 = (.bool true) := f9
      try simp only [f9, str]
      go_wp2
      refine stg_v (x := (.slice ko kn kc)) rfl Same.refl ?_
      first | (simp only [mkAct, List.foldl_cons, List.foldl_nil, List.setIfInBounds_toArray, List.set_cons_succ, List.set_cons_zero, upd, reduceIte, Nat.reduceEqDiff, Nat.reduceAdd, f9, str]; done) | (simp [mkAct, upd, f9, str, *]; done)
    · -- operation 13
      obtain ⟨f12, f9, -⟩ := hp
      replace f12 : u 12 = (.slice ko kn kc) := f12
      replace f9 : u 9 = (.bool true) := f9
      try simp only [f12, f9, str]
      go_wp2_with (refine conv_string rfl _ rfl byT u8T strT rfl (hk4'.out.same hI) ?_)
      refine stg_v (x := (str key)) rfl Same.refl ?_
      first | (simp only [mkAct, List.foldl_cons, List.foldl_nil, List.setIfInBounds_toArray, List.set_cons_succ, List.set_cons_zero, upd, reduceIte, Nat.reduceEqDiff, Nat.reduceAdd, f12, f9, str]; done) | (simp [mkAct, upd, f12, f9, str, *]; done)
    · -- operation 14
      obtain ⟨f11, f13, f9, -⟩ := hp
      replace f11 : u 11 = (str key) := f11
      replace f13 : u 13 = (str key) := f13
      replace f9 : u 9 = (.bool true) := f9
      try simp only [f11, f13, f9, str]
      go_wp2
      refine stg_v (x := (.bool true)) rfl Same.refl ?_
      first | (simp only [mkAct, List.foldl_cons, List.foldl_nil, List.setIfInBounds_toArray, List.set_cons_succ, List.set_cons_zero, upd, reduceIte, Nat.reduceEqDiff, Nat.reduceAdd, f11, f13, f9, str]; done) | (simp [mkAct, upd, f11, f13, f9, str, *]; done)
    · -- operation 15
      obtain ⟨f9, f14, -⟩ := hp
      replace f9 : u 9 = (.bool true) := f9
      replace f14 : u 14 = (.bool true) := f14
      try simp only [f9, f14, str]
      go_wp2
      refine stg_v (x := (.bool true)) rfl Same.refl ?_
      first | (simp only [mkAct, List.foldl_cons, List.foldl_nil, List.setIfInBounds_toArray, List.set_cons_succ, List.set_cons_zero, upd, reduceIte, Nat.reduceEqDiff, Nat.reduceAdd, f9, f14, str]; done) | (simp [mkAct, upd, f9, f14, str, *]; done)
    · -- operation 16
      obtain ⟨f15, -⟩ := hp
      replace f15 : u 15 = (.bool true) := f15
      try simp only [f15, str]
      go_wp2
      refine stg_v (x := (.bool true)) rfl Same.refl ?_
      first | (simp only [mkAct, List.foldl_cons, List.foldl_nil, List.setIfInBounds_toArray, List.set_cons_succ, List.set_cons_zero, upd, reduceIte, Nat.reduceEqDiff, Nat.reduceAdd, f15, str]; done) | (simp [mkAct, upd, f15, str, *]; done)
    · -- operation 17
      obtain ⟨f16, -⟩ := hp
      replace f16 : u 16 = (.bool true) := f16
      try simp only [f16, str]
      go_wp2_with fail
      refine (hl.out _).mono ?_
      rintro e w1 ⟨rfl, hs'⟩
      go_wp2
      refine stg_v (x := (.bool true)) rfl hs' ?_
      first | (simp only [mkAct, List.foldl_cons, List.foldl_nil, List.setIfInBounds_toArray, List.set_cons_succ, List.set_cons_zero, upd, reduceIte, Nat.reduceEqDiff, Nat.reduceAdd, f16, str]; done) | (simp [mkAct, upd, f16, str, *]; done)
    · -- operation 18
      obtain ⟨f16, f17, -⟩ := hp
      replace f16 : u 16 = (.bool true) := f16
      replace f17 : u 17 = (.bool true) := f17
      try simp only [f16, f17, str]
      go_wp2
      refine stg_v (x := (.bool true)) rfl Same.refl ?_
      first | (simp only [mkAct, List.foldl_cons, List.foldl_nil, List.setIfInBounds_toArray, List.set_cons_succ, List.set_cons_zero, upd, reduceIte, Nat.reduceEqDiff, Nat.reduceAdd, f16, f17, str]; done) | (simp [mkAct, upd, f16, f17, str, *]; done)
  · intro u wx hI hR
    obtain ⟨r0, r1, r3, r5, r6, r7, r8, r9, r10, r11, r12, r13, r14, r15, r16, r17, r18, -⟩ := hR
    replace r0 : u 0 = (.agg (bv M).toArray) := r0
    replace r1 : u 1 = (.slice ko kn kc) := r1
    replace r3 : u 3 = (.slice ao an ac) := r3
    replace r5 : u 5 = (.slice bo bn bc) := r5
    replace r7 : u 7 = (.agg (bv M).toArray) := r7
    replace r8 : u 8 = (.bool true) := r8
    replace r9 : u 9 = (.bool true) := r9
    replace r10 : u 10 = (.slice oo kn oc) := r10
    replace r11 : u 11 = (str key) := r11
    replace r12 : u 12 = (.slice ko kn kc) := r12
    replace r13 : u 13 = (str key) := r13
    replace r14 : u 14 = (.bool true) := r14
    replace r15 : u 15 = (.bool true) := r15
    replace r16 : u 16 = (.bool true) := r16
    replace r17 : u 17 = (.bool true) := r17
    replace r18 : u 18 = (.bool true) := r18
    simp only [mkAct, List.foldl_cons, List.foldl_nil, List.setIfInBounds_toArray, List.set_cons_succ, List.set_cons_zero]
    try simp only [str, r0, r1, r3, r5, r7, r8, r9, r10, r11, r12, r13, r14, r15, r16, r17, r18]
    go_wp2
    go_ret
    exact ⟨rfl, hs04.out.trans hI⟩
theorem walk_SealMacs (w : World) (ko : Option Addr) (kn kc : Nat) (key : List UInt8) (hk : Sl w 1 ko kn kc (bv key)) (ao : Option Addr) (an ac : Nat) (a : List UInt8) (ha : Sl w 1 ao an ac (bv a)) (bo : Option Addr) (bn bc : Nat) (b : List UInt8) (hb : Sl w 1 bo bn bc (bv b)) :
    Calls Try.prog 3 #[.slice ko kn kc, .slice ao an ac, .slice bo bn bc] w fun e w' => e = .returned (.bool true) ∧ Same w w' := by
  by_cases h : 2000 < kn ∨ kn ≤ 2000 ∧ 2000 < an ∨ kn ≤ 2000 ∧ an ≤ 2000 ∧ 2000 < bn
  · exact macs_big ko kn kc ao an ac bo bn bc w h
  · exact macs_main ko kn kc key ao an ac a bo bn bc b w hk ha hb (by omega) (by omega) (by omega)
end Go.Proofs.Ytejdiganmghopaa
