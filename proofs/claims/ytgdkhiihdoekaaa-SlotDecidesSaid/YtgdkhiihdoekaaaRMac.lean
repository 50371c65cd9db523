/-
  The document's mac (raddleref04.pad, Mac).
-/
import Derived.Test.YtgdkhiihdoekaaaShaRef3
import Derived.Test.YtgdkhiihdoekaaaMac2
import Derived.Deep.DeepCutAuto
import Derived.Test.YtgdkhiihdoekaaaMut
namespace Go.Proofs.Ytgdkhiihdoekaaa
open Go Go.RowKit
set_option linter.unusedSimpArgs false
set_option linter.unusedVariables false

theorem kblk_get (K : List UInt8) (j : Nat) (hj : j < 64) : (K ++ List.replicate (64 - K.length) (0 : UInt8)).getD j 0 = if j < K.length then K.getD j 0 else 0 := by
  by_cases h : j < K.length
  · rw [if_pos h]
    simp [List.getD, List.getElem?_append_left h]
  · rw [if_neg h]
    simp only [List.getD]
    rw [List.getElem?_append_right (by omega), List.getElem?_replicate]
    split <;> rfl
set_option maxRecDepth 100000 in
set_option maxHeartbeats 2000000 in
theorem pad_any (key : List UInt8) (x : UInt8) (ko : Option Addr) (kn kc : Nat) (w : World) (hk : Sl w 1 ko kn kc (bv key)) (hkn : kn ≤ 1099511627776) :
    Calls Try.prog 195 #[.slice ko kn kc, .int .u8 (x.toNat : Int)] w (RetB w (Sha.xorl (Sha.kblk key) x)) := by
  have hkl : key.length = kn := by have := hk.len; rw [bv_length] at this; omega
  have hkb := Sha.kblk_eq key
  have hkbl := Sha.kblk_length key
  have hkle := Sha.keyOf_le key
  have hkof : Sha.keyOf key = if 64 < kn then Sha.sum key else key := by rw [Sha.keyOf, hkl]
  have hsumk := fun w h => rsum_any ko kn kc key w h hkn
  have hby := fun w => bytes_any (Sha.sum key) (Sha.sum_length key) w
  obtain ⟨K, hK⟩ : ∃ K, K = Sha.keyOf key := ⟨_, rfl⟩
  have hSl := Sha.sum_length key
  obtain ⟨S, hS⟩ : ∃ S, S = Sha.sum key := ⟨_, rfl⟩
  obtain ⟨Y, hY⟩ : ∃ Y, Y = Sha.kblk key := ⟨_, rfl⟩
  rw [← hY] at hkb hkbl
  rw [← hK] at hkb hkle hkof
  rw [← hS] at hkof hsumk hby hSl
  have hYg : ∀ j, j < 64 → Y.getD j 0 = if j < K.length then K.getD j 0 else 0 := fun j hj => by rw [hkb]; exact kblk_get K j hj
  clear hS hkl hK
  replace hk := Lib.hid hk
  replace hkb := Lib.hid hkb
  replace hkbl := Lib.hid hkbl
  replace hkof := Lib.hid hkof
  replace hsumk := Lib.hid hsumk
  replace hby := Lib.hid hby
  replace hY := Lib.hid hY
  replace hYg := Lib.hid hYg
  replace hSl := Lib.hid hSl
  go_enter Try.func195, Try.ntmps195
  go_upto_if 10 with fail
  go_cut [0] (fun v wx => ∃ bo bn bc, v = .slice bo bn bc ∧ bn ≤ 64 ∧ Sl wx 1 bo bn bc (bv K) ∧ Same w wx)
  case first =>
    by_cases h64 : 64 < kn
    · have hKS := hkof.out
      rw [if_pos h64] at hKS
      clear hkof
      replace hKS := Lib.hid hKS
      go_wp2_with fail
      refine (hsumk.out _ hk.out).mono ?_
      rintro e w2 ⟨rfl, hs2⟩
      go_wp2_with fail
      refine (hby.out _).mono ?_
      rintro e w3 ⟨v3, rfl, ho3, hs3⟩
      obtain ⟨bo, bc, rfl, hbsl⟩ := ho3.sl
      rw [hSl.out, ← hKS.out] at hbsl
      have hs23 := hs2.trans hs3
      rw [hSl.out]
      clear ho3 hs2 hs3
      go_wp2_with fail
      go_meet
      exact ⟨_, _, _, rfl, by omega, hbsl, hs23⟩
    · have hKS := hkof.out
      rw [if_neg h64] at hKS
      clear hkof
      replace hKS := Lib.hid hKS
      go_wp2_with fail
      go_meet
      exact ⟨ko, kn, kc, rfl, by omega, by rw [hKS.out]; exact hk.out, Same.refl⟩
  case rest =>
    obtain ⟨bo, bn, bc, rfl, hbn, hbsl, hs2⟩ := hcut
    have hKl : K.length = bn := by have := hbsl.len; rw [bv_length] at this; omega
    have hcap := hbsl.cap
    clear hsumk hkof hby
    replace hs2 := Lib.hid hs2
    replace hbsl := Lib.hid hbsl
    replace hKl := Lib.hid hKl
    go_wp2
    go_loopw [5, 6] (fun v i wr => ∃ k : Nat, k ≤ 64 ∧ i = .int .i64 k ∧ Own wr wc.heap.size 5 1 v k (bv ((Sha.xorl Y x).take k)) ∧ Same wc wr) (fun _ i _ => 64 - (intOf i).toNat)
    case atStart => exact ⟨0, by omega, rfl, Own.nil _ _ _ _, Same.refl⟩
    case round =>
      obtain ⟨k, hk64, rfl, ho, hs⟩ := hrel
      by_cases hlt : k < 64
      · have hsz := hs.size
        have hYk := hYg.out k hlt
        rw [hKl.out] at hYk
        have htk : (Sha.xorl Y x).take (k + 1) = (Sha.xorl Y x).take k ++ [Y.getD k 0 ^^^ x] := by
          rw [List.take_succ_eq_append_getElem (by rw [Sha.xorl_length, hkbl.out]; exact hlt)]
          simp [Sha.xorl, List.getD, show k < Y.length by rw [hkbl.out]; exact hlt]
        obtain ⟨z, hz⟩ : ∃ z, z = Y.getD k 0 := ⟨_, rfl⟩
        rw [← hz] at hYk htk
        have hx := u8_xor_words z x
        have q0 : 0 ≤ (k : Int) := by omega
        obtain ⟨q, hq⟩ : ∃ q, q = z ^^^ x := ⟨_, rfl⟩
        rw [← hq] at htk hx
        clear hz
        replace hq := Lib.hid hq
        replace htk := Lib.hid htk
        replace hs := Lib.hid hs
        replace ho := Lib.hid ho
        by_cases hkb : k < bn
        · rw [if_pos hkb] at hYk
          obtain ⟨bk, off, rfl, hbk, hcell⟩ := hbsl.out.at (by intro h; rw [bv, List.map_eq_nil_iff] at h; have := hKl.out; rw [h] at this; simp at this; omega)
          have hkK : k < K.length := by rw [hKl.out]; exact hkb
          have cc := hs.out.cell (hcell k _ (bv_get hkK))
          have e1 : K[k] = z := by rw [hYk]; simp [List.getD, hkK]
          rw [e1] at cc
          have q1 : (k : Int) < (bn : Int) := by omega
          clear hcell e1 hYk
          go_wp2_with (at_builtin; refine append_own (l := [.int .u8 (q.toNat : Int)]) rfl _ _ rfl byT ho.out rfl rfl rfl (by simp [Value.oneCell']) hsz (by omega) (by omega) ?_)
          intro v4 w4 ho4 hk4 _
          rw [← bv_one, ← bv_append, ← htk.out] at ho4
          have hs4 := hs.out.keep hk4 (fun x hx hv => by have := ho.out.base x hv; omega)
          clear hk4
          go_wp2
          go_roundw
          case rel => exact ⟨k + 1, by omega, by go_num, ho4, hs4⟩
          case measure => simp [intOf]; omega
        · rw [if_neg hkb] at hYk
          subst hYk
          have hx2 : bits BinOp.xor .u8 0 (x.toNat : Int) = (q.toNat : Int) := hx
          clear hx
          go_wp2_with (at_builtin; refine append_own (l := [.int .u8 (q.toNat : Int)]) rfl _ _ rfl byT ho.out rfl rfl rfl (by simp [Value.oneCell']) hsz (by omega) (by omega) ?_)
          intro v4 w4 ho4 hk4 _
          rw [← bv_one, ← bv_append, ← htk.out] at ho4
          have hs4 := hs.out.keep hk4 (fun x hx hv => by have := ho.out.base x hv; omega)
          clear hk4
          go_wp2
          go_roundw
          case rel => exact ⟨k + 1, by omega, by go_num, ho4, hs4⟩
          case measure => simp [intOf]; omega
      · obtain rfl : k = 64 := by omega
        have hxl : (Sha.xorl Y x).length = 64 := by rw [Sha.xorl_length, hkbl.out]
        rw [List.take_of_length_le (by rw [hxl]; exact Nat.le_refl _)] at ho
        go_wp2
        go_ret
        exact ⟨_, rfl, by rw [← hY.out, hxl]; exact ho.lower hs2.out.size, hs2.out.trans hs⟩
set_option maxRecDepth 100000 in
set_option maxHeartbeats 2000000 in
theorem rmac_any (ko : Option Addr) (kn kc : Nat) (key : List UInt8) (bo : Option Addr) (bn bc : Nat) (b : List UInt8) (w : World) (hk : Sl w 1 ko kn kc (bv key)) (hkn : kn ≤ 1099511627776) (hb : Sl w 1 bo bn bc (bv b)) (hbn : bn ≤ 109951162777) :
    Calls Try.prog 189 #[.slice ko kn kc, .slice bo bn bc] w (MacOf w (Sha.mac key b)) := by
  have hmac := Sha.mac_eq key b
  have hkbl := Sha.kblk_length key
  have hbl : b.length = bn := by have := hb.len; rw [bv_length] at this; omega
  have hpad := fun w x h => pad_any key x ko kn kc w h hkn
  obtain ⟨Y, hY⟩ : ∃ Y, Y = Sha.kblk key := ⟨_, rfl⟩
  rw [← hY] at hmac hkbl hpad
  have hP := fun w h => hpad w 0x36 h
  have hXl := Sha.xorl_length Y 0x36
  have hZl := Sha.xorl_length Y 0x5c
  rw [hkbl] at hXl hZl
  obtain ⟨X, hX⟩ : ∃ X, X = Sha.xorl Y 0x36 := ⟨_, rfl⟩
  obtain ⟨Z, hZ⟩ : ∃ Z, Z = Sha.xorl Y 0x5c := ⟨_, rfl⟩
  have hpad2 := fun w h => hpad w 0x5c h
  rw [← hX] at hP hXl hmac
  rw [← hZ] at hpad2 hmac hZl
  obtain ⟨I, hI⟩ : ∃ I, I = Sha.sum (X ++ b) := ⟨_, rfl⟩
  have hIl : I.length = 32 := by rw [hI, Sha.sum_length]
  have hinfI := Lib.hid (dig_info hIl)
  have hinfM := Lib.hid (dig_info (Sha.sum_length (Z ++ I)))
  rw [← hI] at hmac
  have hrI := fun w ao c h => rsum_any ao (64 + bn) c (X ++ b) w h (by omega)
  have hrZ := fun w ao c h => rsum_any ao (64 + 32) c (Z ++ I) w h (by omega)
  rw [← hI] at hrI
  have hby := fun w => bytes_any I hIl w
  clear hY hX hZ hpad hkbl
  replace hk := Lib.hid hk
  replace hb := Lib.hid hb
  replace hmac := Lib.hid hmac
  replace hP := Lib.hid hP
  replace hpad2 := Lib.hid hpad2
  replace hrI := Lib.hid hrI
  replace hrZ := Lib.hid hrZ
  replace hby := Lib.hid hby
  replace hI := Lib.hid hI
  replace hXl := Lib.hid hXl
  replace hZl := Lib.hid hZl
  replace hIl := Lib.hid hIl
  replace hbl := Lib.hid hbl
  go_enter Try.func189, Try.ntmps189
  go_upto_region 1 with (refine alloc_new rfl 29 rfl (bv (List.replicate 32 0)).toArray (by kernel_rfl) ?_; intro w1 hd hs1; have hdl := blk_lt hd; replace hd := Lib.hid hd; replace hs1 := Lib.hid hs1)
  have hk1 := hk.out.same hs1.out
  replace hk1 := Lib.hid hk1
  go_wp2_with fail
  refine (hP.out _ hk1.out).mono ?_
  rintro e w2 ⟨v2, rfl, ho2, hs2⟩
  rw [hXl.out] at ho2
  have hb2 := (hb.out.same hs1.out).same hs2
  have hz1 := hs2.size
  replace hs2 := Lib.hid hs2
  replace ho2 := Lib.hid ho2
  replace hb2 := Lib.hid hb2
  go_wp2_with (at_builtin; refine append_sl rfl _ _ rfl byT ho2.out rfl rfl hb2.out bv_cell hz1 (by omega) (by omega) ?_; intro v3 w3 ho3 hk3 hz3; rw [← bv_append] at ho3; clear hz3)
  have hs3 : Same w1 w3 := hs2.out.keep hk3 (fun x hx hv => by have := ho2.out.base x hv; omega)
  obtain ⟨po, pc, rfl, hpsl⟩ := ho3.sl
  clear hk3 ho2 hs2 ho3
  replace hpsl := Lib.hid hpsl
  refine (hrI.out _ _ _ hpsl.out).mono ?_
  rintro e w4 ⟨rfl, hs4⟩
  have hs14 := hs3.trans hs4
  clear hs4 hs3
  replace hs14 := Lib.hid hs14
  go_upto_region 2 with (first | (refine alloc_new rfl 29 rfl (bv (List.replicate 32 0)).toArray (by kernel_rfl) ?_; intro w5 hb5 hs5; have hb5l := blk_lt hb5; replace hb5 := Lib.hid hb5; replace hs5 := Lib.hid hs5) | (refine store_row rfl _ _ _ rfl w4.heap.size _ rfl rfl _ _ hb5.out hinfI.out (by rw [List.size_toArray, List.size_toArray, bv_length, bv_length, hIl.out]; rfl) (by simpa using bv_cell) ?_; intro w6 hb6 hk6; have hs6 : Same w1 w6 := (hs14.out.trans hs5.out).keep hk6 (fun x hx hv => by have := hs14.out.size; omega); replace hb6 := Lib.hid hb6; replace hs6 := Lib.hid hs6; clear hk6))
  have hd6 := (hs6.out.block _ hdl).trans hd.out
  have hk6 := hk1.out.same hs6.out
  have hs06 := hs1.out.trans hs6.out
  have hdl6 := blk_lt hd6
  have hbl6 := blk_lt hb6.out
  have hsz6 := hs06.size
  have hk6' := hs06
  clear hs6 hs14 hb5 hs5 hd hb hk hpsl hb2 hk1 hs1
  replace hs06 := Lib.hid hs06
  replace hk6 := Lib.hid hk6
  replace hd6 := Lib.hid hd6
  go_simp
  refine wp_region_tails (by kernel_rfl) [(11, 0), (12, 1), (13, 2), (14, 3)] Same (Same _) [isV (.slice ko kn kc), isOwn w6.heap.size 64 (bv Z), isV (.agg (bv I).toArray), isBn 32 I] Same.refl.drew (fun _ _ h k => h.trans k) (by simp [isV_stable, isB_stable, isAny_stable, isOwn_stable, isBn_stable]) (by decide) (l := [_, _, _, _]) rfl (by decide) (by kernel_rfl) ?_ ?_
  · refine ⟨?_, ?_, ?_, ?_, trivial⟩
    all_goals (intro u wx hI hp; simp only [mkAct, List.foldl_cons, List.foldl_nil, List.setIfInBounds_toArray, List.set_cons_succ, List.set_cons_zero])
    · -- operation 0
      go_wp2
      refine stq_v rfl Same.refl ?_
      first | (simp only [mkAct, List.foldl_cons, List.foldl_nil, List.setIfInBounds_toArray, List.set_cons_succ, List.set_cons_zero, upd, reduceIte, Nat.reduceEqDiff, Nat.reduceAdd, str]; done) | (simp [mkAct, upd, str, *]; done)
    · -- operation 1
      obtain ⟨f0, -⟩ := hp
      replace f0 : u 0 = (.slice ko kn kc) := f0
      try simp only [f0, str]
      go_wp2_with fail
      refine (hpad2.out _ (hk6.out.same hI)).mono ?_
      rintro e w7 ⟨v7, rfl, ho7, hs7⟩
      rw [hZl.out] at ho7
      go_wp2
      refine stq_x v7 rfl (ho7.lower hI.size) hs7 ?_
      first | (simp only [mkAct, List.foldl_cons, List.foldl_nil, List.setIfInBounds_toArray, List.set_cons_succ, List.set_cons_zero, upd, reduceIte, Nat.reduceEqDiff, Nat.reduceAdd, f0, str]; done) | (simp [mkAct, upd, f0, str, *]; done)
    · -- operation 2
      go_wp2_with (refine load_row rfl _ _ rfl w4.heap.size rfl _ _ _ _ ((hI.block _ hbl6).trans hb6.out) Try.underlying29 rfl hinfI.out ?_)
      refine stq_v rfl Same.refl ?_
      first | (simp only [mkAct, List.foldl_cons, List.foldl_nil, List.setIfInBounds_toArray, List.set_cons_succ, List.set_cons_zero, upd, reduceIte, Nat.reduceEqDiff, Nat.reduceAdd, str]; done) | (simp [mkAct, upd, str, *]; done)
    · -- operation 3
      obtain ⟨f2, -, -⟩ := hp
      replace f2 : u 2 = (.agg (bv I).toArray) := f2
      try simp only [f2, str]
      go_wp2_with fail
      refine (hby.out _).mono ?_
      rintro e w7 ⟨v7, rfl, ho7, hs7⟩
      obtain ⟨qo, qc, rfl, hq⟩ := ho7.sl
      rw [hIl.out] at hq
      rw [hIl.out]
      go_wp2
      refine stq_x (.slice qo 32 qc) rfl ⟨qo, qc, rfl, hq⟩ hs7 ?_
      first | (simp only [mkAct, List.foldl_cons, List.foldl_nil, List.setIfInBounds_toArray, List.set_cons_succ, List.set_cons_zero, upd, reduceIte, Nat.reduceEqDiff, Nat.reduceAdd, f2, str]; done) | (simp [mkAct, upd, f2, str, *]; done)
  · intro u wx hI hR
    obtain ⟨r0, r1, r2, r3, -⟩ := hR
    replace r0 : u 0 = (.slice ko kn kc) := r0
    replace r2 : u 2 = (.agg (bv I).toArray) := r2
    obtain ⟨ao3, c3, r3, hsl3⟩ := r3
    simp only [mkAct, List.foldl_cons, List.foldl_nil, List.setIfInBounds_toArray, List.set_cons_succ, List.set_cons_zero]
    try simp only [str, r0, r2, r3]
    have hq := hsl3
    clear r3 hsl3
    replace r1 : Own wx w6.heap.size 5 1 (u 1) 64 (bv Z) := r1
    obtain ⟨v7, hv7⟩ : ∃ v, v = u 1 := ⟨_, rfl⟩
    rw [← hv7] at r1
    simp only [← hv7]
    clear hv7
    replace r1 := Lib.hid r1
    replace hq := Lib.hid hq
    go_wp2_with (at_builtin; refine append_sl rfl _ _ rfl byT r1.out rfl rfl hq.out bv_cell hI.size (by omega) (by omega) ?_; intro v8 w8 ho8 hk8 hz8; rw [← bv_append] at ho8; clear hz8)
    have hs8 : Same w6 w8 := hI.keep hk8 (fun x hx hv => by have := r1.out.base x hv; omega)
    obtain ⟨po2, pc2, rfl, hpsl2⟩ := ho8.sl
    clear hk8 ho8 r1 hq
    replace hpsl2 := Lib.hid hpsl2
    refine (hrZ.out _ _ _ hpsl2.out).mono ?_
    rintro e w9 ⟨rfl, hs9⟩
    have hs69 := hs8.trans hs9
    have hd9 := (hs69.block _ hdl6).trans hd6.out
    clear hs9 hs8
    replace hd9 := Lib.hid hd9
    replace hs69 := Lib.hid hs69
    go_wp2_with (refine store_row rfl _ _ _ rfl w.heap.size _ rfl rfl _ _ hd9.out hinfM.out (by rw [List.size_toArray, List.size_toArray, bv_length, bv_length, Sha.sum_length]; rfl) (by simpa using bv_cell) ?_; intro wa hba hka; replace hba := Lib.hid hba; replace hka := Lib.hid hka)
    refine bodyPost_ret (v := .agg (bv (Sha.sum (Z ++ I))).toArray) (results_row (p := 4) (ty := 29) rfl _ _ w.heap.size _ _ _ _ rfl hba.out Try.underlying29 rfl hinfM.out) rfl ?_
    exact ⟨by rw [hmac.out], (hs06.out.trans hs69.out).keep hka.out (fun x hx hv => by omega)⟩
end Go.Proofs.Ytgdkhiihdoekaaa
