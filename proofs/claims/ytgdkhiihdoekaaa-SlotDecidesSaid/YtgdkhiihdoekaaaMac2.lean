/-
  The seal's Mac, the program's: the whole.
-/
import Derived.Test.YtgdkhiihdoekaaaMac1
namespace Go.Proofs.Ytgdkhiihdoekaaa
open Go Go.RowKit
set_option linter.unusedSimpArgs false
set_option linter.unusedVariables false

section
variable {P : Program} {ops : Array Oper} {rest : List Oper} {o : Oper} {a : Act} {Q : Exit → Act → World → Prop} {t e : TypeId} {z : Value} {sz by_ : Nat}
/-- 'copy(row, s)', all of s, whatever s. -/
theorem copy_all {W : World} (hg : Region.wanted o (yielded ops a.tmps) = true) (d s : Operand) (dT sT : TypeId)
    (ho : o.op = .call { callee := .builtin .copy, args := #[d, s], argTypes := #[dT, sT] }) (hu : P.underlying dT = some (.slice e)) (hsz : (P.info? e).map (·.size) = some 1)
    (g dLen dCap : Nat) (ao : Option Addr) (sLen sCap : Nat) (hd : a.eval d = .slice (some ⟨g, 0, none⟩) dLen dCap) (hs : a.eval s = .slice ao sLen sCap)
    (cur : Array Value) (T : TypeId) (hb : W.heap[g]? = some (.cells cur T (0, 0))) (cs : List Value) (hsl : Sl W 1 ao sLen sCap cs) (hle : sLen ≤ dLen) (hfit : dLen ≤ cur.size) (h1 : ∀ v ∈ cs, v.oneCell' = true)
    (h : ∀ w', w'.heap[g]? = some (.cells (cs ++ cur.toList.drop cs.length).toArray T (0, 0)) → Keep (· = g) W w' → wpList P ops Q rest (a.put o.dst (goInt cs.length)) w') : wpList P ops Q (o :: rest) a W := by
  have hlen : cs.length = sLen := by have := hsl.len; omega
  rcases ao with _ | ad
  · have h0 := hsl.nil rfl
    have h2 := hsl.cap
    obtain rfl : sLen = 0 := by omega
    obtain rfl : cs = [] := List.eq_nil_of_length_eq_zero hlen
    refine wpL hg fun K hK => ?_
    obtain ⟨i, hi, hi1⟩ : ∃ i, P.info? e = some i ∧ i.size = 1 := by
      cases hx : P.info? e with
      | none => rw [hx] at hsz; cases hsz
      | some i => rw [hx] at hsz; exact ⟨i, rfl, by simpa using hsz⟩
    have hrun : (Builtin.copy_ #[dT, sT] o.type #[.slice (some ⟨g, 0, none⟩) dLen dCap, .slice none 0 sCap]).run P W = .ok (goInt 0) W := by
      simp [Builtin.copy_, Builtin.lenOf, Builtin.firstCells, run_underlying hu, Sem.run_bind, Result.andThen, sizeOf, typeInfo, hi, hi1, storeCells]
    unfold Oper.wp
    simp [execOp, ho, resolve, invoke, builtin, hd, hs, hrun, Result.andThen]
    exact hK _ _ (h W (by simpa using hb) Keep.refl)
  · refine copy_row hg d s dT sT ho hu hsz g 0 dLen dCap ad sLen sCap hd hs cur T hb cs (by rw [hlen]; exact (Nat.min_eq_left hle).symm) (fun j v hj => hsl.cell ad rfl j v hj) (by omega) h1 ?_
    intro w' hb' hk'
    refine h w' ?_ hk'
    simpa using hb'
end
theorem kblk_bv (k : List UInt8) (hk : k.length ≤ 64) : (bv k ++ (bv (List.replicate 64 (0 : UInt8))).toArray.toList.drop (bv k).length).toArray = (bv (k ++ List.replicate (64 - k.length) 0)).toArray := by
  rw [List.toList_toArray, bv_drop, bv_length, bv_append, List.drop_replicate]
def MacOf (w : World) (l : List UInt8) (e : Ending) (w' : World) : Prop := e = .returned (.agg (bv l).toArray) ∧ Same w w'
/-- A key, as it is taken. -/
def Sha.keyOf (key : List UInt8) : List UInt8 := if 64 < key.length then Sha.sum key else key
theorem Sha.keyOf_le (key : List UInt8) : (Sha.keyOf key).length ≤ 64 := by
  unfold Sha.keyOf
  split
  · rw [Sha.sum_length]
    omega
  · omega
theorem Sha.kblk_eq (key : List UInt8) : Sha.kblk key = Sha.keyOf key ++ List.replicate (64 - (Sha.keyOf key).length) 0 := rfl
theorem Sha.mac_eq (key b : List UInt8) : Sha.mac key b = Sha.sum (Sha.xorl (Sha.kblk key) 0x5c ++ Sha.sum (Sha.xorl (Sha.kblk key) 0x36 ++ b)) := rfl
set_option maxRecDepth 100000 in
set_option maxHeartbeats 2000000 in
theorem mac_any (w : World) (ko : Option Addr) (kn kc : Nat) (key : List UInt8) (hk : Sl w 1 ko kn kc (bv key)) (hkn : kn ≤ 1099511627776) (po : Option Addr) (pn pc : Nat) (vs : List Value) (bs : List (List UInt8)) (hsl : Sl w 1 po pn pc vs) (hp : Sls w vs bs) (hbig : bs.flatten.length < 2 ^ 47) (hpn : pn ≤ 1099511627776) :
    Calls Try.prog 176 #[.slice ko kn kc, .slice po pn pc] w (MacOf w (Sha.mac key bs.flatten)) := by
  have hkl : key.length = kn := by have := hk.len; rw [bv_length] at this; omega
  have hmac := Sha.mac_eq key bs.flatten
  have hkb := Sha.kblk_eq key
  have hkbl := Sha.kblk_length key
  have hkle := Sha.keyOf_le key
  have hkof : Sha.keyOf key = if 64 < kn then Sha.sum key else key := by rw [Sha.keyOf, hkl]
  have hsumk := fun w e h => sum_one key w e ko kn kc h (by rw [hkl]; exact Nat.lt_of_le_of_lt hkn (by decide))
  obtain ⟨K, hK⟩ : ∃ K, K = Sha.keyOf key := ⟨_, rfl⟩
  obtain ⟨S, hS⟩ : ∃ S, S = Sha.sum key := ⟨_, rfl⟩
  have hSl : S.length = 32 := by rw [hS, Sha.sum_length]
  obtain ⟨Y, hY⟩ : ∃ Y, Y = Sha.kblk key := ⟨_, rfl⟩
  rw [← hY] at hmac hkb hkbl
  rw [← hK] at hkb hkle hkof
  rw [← hS] at hkof hsumk
  obtain ⟨I, hI⟩ : ∃ I, I = Sha.sum (Sha.xorl Y 0x36 ++ bs.flatten) := ⟨_, rfl⟩
  have hIl : I.length = 32 := by rw [hI, Sha.sum_length]
  rw [← hI] at hmac
  have hinfS := Lib.hid (dig_info hSl)
  have hinfI := Lib.hid (dig_info hIl)
  have hinfM := Lib.hid (dig_info (Sha.sum_length (Sha.xorl Y 0x5c ++ I)))
  clear hY hS hkl hK
  replace hk := Lib.hid hk
  replace hsl := Lib.hid hsl
  replace hp := Lib.hid hp
  replace hbig := Lib.hid hbig
  replace hmac := Lib.hid hmac
  replace hkb := Lib.hid hkb
  replace hkbl := Lib.hid hkbl
  replace hkof := Lib.hid hkof
  replace hsumk := Lib.hid hsumk
  replace hI := Lib.hid hI
  replace hSl := Lib.hid hSl
  replace hIl := Lib.hid hIl
  go_enter Try.func176, Try.ntmps176
  go_upto_region 1 with (refine alloc_new rfl 29 rfl (bv (List.replicate 32 0)).toArray (by kernel_rfl) ?_; intro w1 hd hs1; have hdl := blk_lt hd; replace hd := Lib.hid hd; replace hs1 := Lib.hid hs1)
  have hk1 := hk.out.same hs1.out
  replace hk1 := Lib.hid hk1
  go_upto_if 11 with fail
  go_cut [0] (fun v wx => ∃ bo bn bc, v = .slice bo bn bc ∧ bn ≤ 64 ∧ Sl wx 1 bo bn bc (bv K) ∧ Same w1 wx)
  case first =>
    by_cases h64 : 64 < kn
    · have hKS := hkof.out
      rw [if_pos h64] at hKS
      clear hkof
      replace hKS := Lib.hid hKS
      go_wp2_with fail
      refine (hsumk.out _ _ hk1.out).mono ?_
      rintro e w2 ⟨rfl, hs2⟩
      go_wp2_with (first | (refine alloc_new rfl 29 rfl (bv (List.replicate 32 0)).toArray (by kernel_rfl) ?_; intro w3 hb5 hs3; have hb5l := blk_lt hb5; replace hb5 := Lib.hid hb5; replace hs3 := Lib.hid hs3) | (refine store_row rfl _ _ _ rfl w2.heap.size _ rfl rfl _ _ hb5.out hinfS.out (by rw [List.size_toArray, List.size_toArray, bv_length, bv_length, hSl.out]; rfl) (by simpa using bv_cell) ?_; intro w4 hb4 hk4))
      have hslK := dig_conv hSl.out hb4
      rw [← hKS.out] at hslK
      have hs4 : Same w1 w4 := (hs2.trans hs3.out).keep hk4 (fun x hx hv => by have := hs2.size; omega)
      clear hb4 hk4 hs2 hs3 hb5
      go_wp2_with fail
      go_meet
      exact ⟨_, _, _, rfl, by omega, hslK, hs4⟩
    · have hKS := hkof.out
      rw [if_neg h64] at hKS
      clear hkof
      replace hKS := Lib.hid hKS
      go_wp2_with fail
      go_meet
      exact ⟨ko, kn, kc, rfl, by omega, by rw [hKS.out]; exact hk1.out, Same.refl⟩
  case rest =>
    obtain ⟨bo, bn, bc, rfl, hbn, hbsl, hs2⟩ := hcut
    rename_i w2
    have hKl : K.length = bn := by have := hbsl.len; rw [bv_length] at this; omega
    have hs02 := hs1.out.trans hs2
    have hd2 := (hs2.block _ hdl).trans hd.out
    have hd2l := blk_lt hd2
    clear hk1 hs1 hs2 hd hsumk hkof
    replace hd2 := Lib.hid hd2
    replace hs02 := Lib.hid hs02
    replace hbsl := Lib.hid hbsl
    replace hKl := Lib.hid hKl
    go_wp2_with (first | (refine alloc_new rfl 251 rfl (bv (List.replicate 64 0)).toArray (by kernel_rfl) ?_; intro w3 hb6 hs3; have hb6l := blk_lt hb6; have hbsl3 := hbsl.out.same hs3; replace hb6 := Lib.hid hb6; replace hs3 := Lib.hid hs3; replace hbsl3 := Lib.hid hbsl3) | (refine copy_all rfl _ _ _ _ rfl byT.under (by kernel_rfl) wc.heap.size 64 64 bo bn bc rfl rfl _ _ hb6.out (bv K) hbsl3.out hbn (by simp [bv_length]) bv_cell ?_; intro w4 hb4 hk4; rw [kblk_bv K hkle, ← hkb.out] at hb4; have hs04 : Same wc w4 := hs3.out.keep hk4 (fun x hx hv => by omega); clear hk4 hs3 hb6 hbsl3; replace hb4 := Lib.hid hb4; replace hs04 := Lib.hid hs04))
    have hs4 := hs02.out.trans hs04.out
    have hd4 := (hs04.out.block _ hd2l).trans hd2.out
    have hb4l := blk_lt hb4.out
    have hd4l := blk_lt hd4
    have hm1 : Calls Try.prog 188 #[.int .u8 54, .slice po pn pc, .pointer (some ⟨wc.heap.size, 0, none⟩)] w4 fun e w' => e = .returned (.agg (bv (Sha.sum (Sha.xorl Y 0x36 ++ bs.flatten))).toArray) ∧ Same w4 w' :=
      mac1_any Y hkbl.out wc.heap.size 0x36 po pn pc vs bs w4 hb4.out (hsl.out.same hs4) (hp.out.same hs4) (Nat.lt_of_lt_of_le hbig.out (by decide)) hpn
    rw [← hI.out] at hm1
    clear hd2 hs02 hs04
    replace hm1 := Lib.hid hm1
    replace hs4 := Lib.hid hs4
    replace hd4 := Lib.hid hd4
    refine hm1.out.mono ?_
    rintro e w5 ⟨rfl, hs5⟩
    go_wp2_with (first | (refine alloc_new rfl 29 rfl (bv (List.replicate 32 0)).toArray (by kernel_rfl) ?_; intro w6 hb8 hs6; have hb8l := blk_lt hb8; replace hb8 := Lib.hid hb8; replace hs6 := Lib.hid hs6) | (refine store_row rfl _ _ _ rfl w5.heap.size _ rfl rfl _ _ hb8.out hinfI.out (by rw [List.size_toArray, List.size_toArray, bv_length, bv_length, hIl.out]; rfl) (by simpa using bv_cell) ?_; intro w7 hb7 hk7; have hs47 : Same w4 w7 := (hs5.trans hs6.out).keep hk7 (fun x hx hv => by have := hs5.size; omega); have hslI := dig_conv hIl.out hb7; have hb7l := blk_lt hb7; clear hk7 hs6 hb8; replace hs47 := Lib.hid hs47; replace hslI := Lib.hid hslI))
    have hb47 := (hs47.out.block _ hb4l).trans hb4.out
    have hd47 := (hs47.out.block _ hd4l).trans hd4.out
    have hs07 := hs4.out.trans hs47.out
    have hbx := sl_box (w := w7) (e := 143) [.slice (some ⟨w5.heap.size, 0, none⟩) 32 32] 1 rfl (by unfold maxLen; omega)
    have hpx := (Sls.cons hslI.out (Sls.nil w7)).box (e := 143)
    have hbb := ((Same.refl.alloc (.cells #[.slice (some ⟨w5.heap.size, 0, none⟩) 32 32] 143)).block _ (blk_lt hb47)).trans hb47
    have hIf : [I].flatten = I := by simp
    have hm2 : Calls Try.prog 188 #[.int .u8 92, .slice (some ⟨w7.heap.size, 0, none⟩) 1 1, .pointer (some ⟨wc.heap.size, 0, none⟩)] (w7.alloc (.cells #[.slice (some ⟨w5.heap.size, 0, none⟩) 32 32] 143)) fun e w' => e = .returned (.agg (bv (Sha.sum (Sha.xorl Y 0x5c ++ [I].flatten))).toArray) ∧ Same (w7.alloc (.cells #[.slice (some ⟨w5.heap.size, 0, none⟩) 32 32] 143)) w' :=
      mac1_any Y hkbl.out wc.heap.size 0x5c _ 1 1 _ [I] _ hbb hbx hpx (by rw [hIf, hIl.out]; decide) (by omega)
    rw [hIf] at hm2
    clear hbx hpx hbb hIf hslI hs4 hs47 hb4 hd4 hm1 hs5
    replace hm2 := Lib.hid hm2
    replace hd47 := Lib.hid hd47
    replace hs07 := Lib.hid hs07
    go_wp2_with fail
    refine hm2.out.mono ?_
    rintro e w8 ⟨rfl, hs8⟩
    have hs78 : Same w7 w8 := (Same.refl.alloc _).trans hs8
    have hd8 := (hs78.block _ (blk_lt hd47.out)).trans hd47.out
    have hs08 := hs07.out.trans hs78
    replace hd8 := Lib.hid hd8
    clear hs8 hs78 hs07
    go_wp2_with (refine store_row rfl _ _ _ rfl w.heap.size _ rfl rfl _ _ hd8.out hinfM.out (by rw [List.size_toArray, List.size_toArray, bv_length, bv_length, Sha.sum_length]; rfl) (by simpa using bv_cell) ?_; intro w9 hb9 hk9; replace hb9 := Lib.hid hb9; replace hk9 := Lib.hid hk9)
    refine bodyPost_ret (v := .agg (bv (Sha.sum (Sha.xorl Y 0x5c ++ I))).toArray) (results_row (p := 4) (ty := 29) rfl _ _ w.heap.size _ _ _ _ rfl hb9.out Try.underlying29 rfl hinfM.out) rfl ?_
    exact ⟨by rw [hmac.out], hs08.keep hk9.out (fun x hx hv => by omega)⟩
end Go.Proofs.Ytgdkhiihdoekaaa
