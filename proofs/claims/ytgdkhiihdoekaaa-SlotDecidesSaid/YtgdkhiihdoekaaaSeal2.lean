/-
  The document's keys (raddleref04): Derive, key, Sign, Check.
-/
import Derived.Test.YtgdkhiihdoekaaaSeal1
import Derived.Test.YtgdkhiihdoekaaaRMac
namespace Go.Proofs.Ytgdkhiihdoekaaa
open Go Go.RowKit
set_option linter.unusedSimpArgs false
set_option linter.unusedVariables false

/-- The document's keys, as a value. -/
abbrev rkeys (seed : ByteArray) (n : Int) : Value := .agg #[.string seed, .int .i64 n]
def Sha.rsign (seed : List UInt8) (n : Nat) (id : Int) (body : List UInt8) : List UInt8 × Nat :=
  if id < 0 ∨ (n : Int) ≤ id then (noTag, 2) else (Sha.tagOf seed id body, 0)
theorem Sha.rsign_length (seed : List UInt8) (n : Nat) (id : Int) (body : List UInt8) : (Sha.rsign seed n id body).1.length = 16 := by
  unfold Sha.rsign
  split
  · rfl
  · exact Sha.tagOf_length _ _ _
theorem Sha.rsign_eq (seed : List UInt8) (n : Nat) (id : Int) (body : List UInt8) (h : n ≠ 0) : Sha.sign seed n id body = Sha.rsign seed n id body := by rw [Sha.sign, if_neg h, Sha.rsign]
theorem keys_info (c : Array Value) (h : c.size = 2) : (Try.prog.info? 71).map (·.size) = some c.size := by
  rw [h]
  kernel_rfl
set_option maxRecDepth 100000 in
set_option maxHeartbeats 400000 in
theorem rderive_none (w : World) (seed : ByteArray) (n : Int) (h : n < 1 ∨ 1 ≤ n ∧ 4096 < n ∨ 1 ≤ n ∧ n ≤ 4096 ∧ 64 < seed.size) :
    Calls Try.prog 88 #[.string seed, .int .i64 n] w fun e w' => e = .returned (.tuple #[rkeys ByteArray.empty 0, .bool false]) ∧ Same w w' := by
  rcases h with h | ⟨h, h'⟩ | ⟨h, h', h''⟩
  all_goals
    go_enter Try.func88, Try.ntmps88
    go_wp2
    exact bodyPost_ret (v := .tuple #[rkeys ByteArray.empty 0, .bool false]) (by simp [results, Try.results88, go_sem]; rfl) rfl ⟨rfl, Same.refl.alloc _⟩
set_option maxRecDepth 100000 in
set_option maxHeartbeats 400000 in
theorem rderive_some (w : World) (seed : ByteArray) (n : Nat) (h1 : 1 ≤ n) (h2 : n ≤ 4096) (h3 : seed.size ≤ 64) :
    Calls Try.prog 88 #[.string seed, .int .i64 n] w fun e w' => e = .returned (.tuple #[rkeys seed n, .bool true]) ∧ Same w w' := by
  have h1' : (1 : Int) ≤ n := by omega
  have h2' : (n : Int) ≤ 4096 := by omega
  go_enter Try.func88, Try.ntmps88
  go_wp2
  exact bodyPost_ret (v := .tuple #[rkeys seed n, .bool true]) (by simp [results, Try.results88, go_sem]) rfl ⟨rfl, Same.refl.alloc _⟩
set_option maxRecDepth 100000 in
set_option maxHeartbeats 800000 in
theorem rkey_any (w : World) (seed : ByteArray) (n : Nat) (id : Int) (hs : seed.size ≤ 1000000) (hid : id ≤ 9223372036854775807) :
    Calls Try.prog 190 #[rkeys seed n, .int .i64 id] w (RetB w (Sha.idKey seed.data.toList id)) := by
  have hpt := fun w => rputText_any none 0 0 [] seed w (Sl.none w 1) (by omega) (by omega)
  simp only [List.nil_append] at hpt
  have hptl : (Num.putT seed.data.toList).length ≤ 2000000 := by
    have h1 := Num.putN_le (n := seed.data.toList.length) (by simp; omega)
    rw [Num.putT, List.length_append]
    simp at h1 ⊢
    omega
  have hpil : (Num.putI id).length ≤ 9 := by
    unfold Num.putI
    split
    · simp
    · exact Num.putN_le (by omega)
  have hKe := Sha.idKey_eq seed.data.toList id
  have hKl := Sha.idKey_length seed.data.toList id
  obtain ⟨A, hA⟩ : ∃ A, A = Num.putT seed.data.toList := ⟨_, rfl⟩
  rw [← hA] at hpt hptl hKe
  have hpi := fun ao c w h => rput_any ao A.length c A id w h (by omega) hid
  obtain ⟨B, hB⟩ : ∃ B, B = Num.putI id := ⟨_, rfl⟩
  rw [← hB] at hpi hpil hKe
  obtain ⟨K, hK⟩ : ∃ K, K = Sha.idKey seed.data.toList id := ⟨_, rfl⟩
  rw [← hK] at hKe hKl
  have hCl : (A ++ B).length ≤ 3000000 := by simp; omega
  obtain ⟨C, hC⟩ : ∃ C, C = A ++ B := ⟨_, rfl⟩
  rw [← hC] at hKe hpi hCl
  have hsm := fun ao c w h => rsum_any ao C.length c C w h (by omega)
  rw [← hKe] at hsm
  have hby := fun w => bytes_any K hKl w
  have hinfK := Lib.hid (keys_info #[.string seed, .int .i64 n] rfl)
  clear hA hB hKe hKl hC
  replace hK := Lib.hid hK
  replace hpt := Lib.hid hpt
  replace hpi := Lib.hid hpi
  replace hsm := Lib.hid hsm
  replace hby := Lib.hid hby
  go_enter Try.func190, Try.ntmps190
  go_upto_region 1 with (refine box_row rfl _ _ rfl _ rfl hinfK.out ?_; intro w0 hbx hs0)
  have c0 := blk_cell hbx 0
  simp at c0
  clear hbx
  replace hs0 := Lib.hid hs0
  go_simp
  go_wp2_with fail
  refine (hpt.out _).mono ?_
  rintro e w1 ⟨v1, rfl, ho1, hs1⟩
  obtain ⟨a1, n1, rfl, hsl1⟩ := ho1.sl
  have hs01 := hs0.out.trans hs1
  clear ho1 c0 hs1 hs0
  replace hsl1 := Lib.hid hsl1
  replace hs01 := Lib.hid hs01
  go_wp2_with fail
  refine (hpi.out _ _ _ hsl1.out).mono ?_
  rintro e w2 ⟨v2, rfl, ho2, hs2⟩
  obtain ⟨a2, n2, rfl, hsl2⟩ := ho2.sl
  have hs02 := hs01.out.trans hs2
  clear ho2 hs2 hs01 hsl1
  replace hsl2 := Lib.hid hsl2
  replace hs02 := Lib.hid hs02
  go_wp2_with fail
  refine (hsm.out _ _ _ hsl2.out).mono ?_
  rintro e w3 ⟨rfl, hs3⟩
  have hs03 := hs02.out.trans hs3
  clear hs3 hs02 hsl2
  replace hs03 := Lib.hid hs03
  go_wp2_with fail
  refine (hby.out _).mono ?_
  rintro e w4 ⟨v4, rfl, ho4, hs4⟩
  go_wp2
  go_ret
  exact ⟨_, rfl, by rw [← hK.out]; exact ho4.lower hs03.out.size, hs03.out.trans hs4⟩
set_option maxRecDepth 100000 in
set_option maxHeartbeats 1600000 in
theorem rsign_any (w : World) (seed : ByteArray) (n : Nat) (id : Int) (body : ByteArray) (hs : seed.size ≤ 1000000) (hb : body.size ≤ 1000000) (hn : n ≤ 1000000) :
    Calls Try.prog 177 #[rkeys seed n, .int .i64 id, .string body] w (RetTag w (Sha.rsign seed.data.toList n id body.data.toList)) := by
  have hinfT := Lib.hid (tag_info noTag_length)
  have hinfK := Lib.hid (keys_info #[.string seed, .int .i64 n] rfl)
  by_cases hi : id < 0 ∨ (n : Int) ≤ id
  · have hr : Sha.rsign seed.data.toList n id body.data.toList = (noTag, 2) := by rw [Sha.rsign, if_pos hi]
    rw [hr]
    clear hr
    have key : ∀ hi : id < 0 ∨ 0 ≤ id ∧ (n : Int) ≤ id, Calls Try.prog 177 #[rkeys seed n, .int .i64 id, .string body] w (RetTag w (noTag, 2)) := by
      intro hi
      rcases hi with hi | ⟨hi, hi'⟩
      all_goals
        go_enter Try.func177, Try.ntmps177
        go_upto_region 2 with (first | (refine box_row rfl _ _ rfl _ rfl hinfK.out ?_; intro w0 hbx hs0; have hbxl := blk_lt hbx; have hflag := hbxl; replace hbx := Lib.hid hbx; replace hs0 := Lib.hid hs0) | (refine alloc_new rfl 76 rfl (bv noTag).toArray (by kernel_rfl) ?_; first | (clear hflag; intro w1 hd hs1; have hdl := blk_lt hd; replace hd := Lib.hid hd; replace hs1 := Lib.hid hs1) | (intro w2 hd2 hs2; have hdl2 := blk_lt hd2; replace hd2 := Lib.hid hd2; replace hs2 := Lib.hid hs2)))
        have hs02 := hs1.out.trans hs2.out
        have hbx2 := (hs02.block _ hbxl).trans hbx.out
        have hd3 := (hs2.out.block _ hdl).trans hd.out
        have hsz := hs1.out.size
        have hw2 : Same w w2 := hs0.out.trans hs02
        have c1 := blk_cell hbx2 1
        simp at c1
        clear hbx hd hs0 hs1 hs2 hs02
        replace hbx2 := Lib.hid hbx2
        replace hd3 := Lib.hid hd3
        replace hw2 := Lib.hid hw2
        go_simp
        go_wp2_with (first | (refine load_row rfl _ _ rfl w1.heap.size rfl _ _ _ _ hd2.out Try.underlying76 rfl hinfT.out ?_) | (refine store_row rfl _ _ _ rfl w0.heap.size _ rfl rfl _ _ hd3.out hinfT.out rfl (by simpa using bv_cell) ?_; intro w3 hb3 hk3; replace hb3 := Lib.hid hb3; replace hk3 := Lib.hid hk3))
        refine bodyPost_ret (v := .tuple #[.agg (bv noTag).toArray, .int .i64 2]) (results_row2 (p := 6) (q := 7) (ty := 76) rfl _ _ w0.heap.size _ _ _ _ _ rfl rfl hb3.out Try.underlying76 rfl hinfT.out) rfl ?_
        exact ⟨rfl, hw2.out.keep hk3.out (fun x hx hv => by omega)⟩
    exact key (by omega)
  · have hr : Sha.rsign seed.data.toList n id body.data.toList = (Sha.tagOf seed.data.toList id body.data.toList, 0) := by rw [Sha.rsign, if_neg hi]
    rw [hr]
    obtain ⟨m, rfl⟩ : ∃ m : Nat, id = (m : Int) := ⟨id.toNat, by omega⟩
    have hmn : (m : Int) < (n : Int) := by omega
    have q0 : 0 ≤ (m : Int) := by omega
    have hkey := fun w => rkey_any w seed n (m : Int) hs (by omega)
    have hTg := Sha.tagOf_eq seed.data.toList (m : Int) body.data.toList
    have hKl := Sha.idKey_length seed.data.toList (m : Int)
    have hMl := Sha.mac_length (Sha.idKey seed.data.toList (m : Int)) body.data.toList
    have hTl := Sha.tagOf_length seed.data.toList (m : Int) body.data.toList
    obtain ⟨K, hK⟩ : ∃ K, K = Sha.idKey seed.data.toList (m : Int) := ⟨_, rfl⟩
    rw [← hK] at hTg hKl hMl hkey
    obtain ⟨D, hD⟩ : ∃ D, D = body.data.toList := ⟨_, rfl⟩
    rw [← hD] at hTg hMl hTl ⊢
    have hDl : D.length = body.size := by rw [hD]; simp
    have hmac := fun ko kc bo bc w h1 h2 => rmac_any ko 32 kc K bo body.size bc D w h1 (by omega) h2 (by omega)
    obtain ⟨M, hM⟩ : ∃ M, M = Sha.mac K D := ⟨_, rfl⟩
    rw [← hM] at hTg hMl hmac
    obtain ⟨T, hT⟩ : ∃ T, T = Sha.tagOf seed.data.toList (m : Int) D := ⟨_, rfl⟩
    rw [← hT] at hTg hTl
    have hMg : ∀ j, j < 16 → M.getD j 0 = T.getD j 0 := by
      intro j hj
      rw [hTg]
      simp only [List.getD, List.getElem?_take, if_pos hj]
    have hinfM := Lib.hid (dig_info hMl)
    have hinfG := Lib.hid (tag_info hTl)
    unfold RetB at hkey
    rw [hKl] at hkey
    have hbs : body.size ≤ maxLen := by unfold maxLen; omega
    clear hr hK hM hi hTg
    replace hkey := Lib.hid hkey
    replace hKl := Lib.hid hKl
    replace hMl := Lib.hid hMl
    replace hTl := Lib.hid hTl
    replace hmac := Lib.hid hmac
    replace hD := Lib.hid hD
    replace hDl := Lib.hid hDl
    replace hT := Lib.hid hT
    replace hMg := Lib.hid hMg
    go_enter Try.func177, Try.ntmps177
    go_upto_region 2 with (first | (refine box_row rfl _ _ rfl _ rfl hinfK.out ?_; intro w0 hbx hs0; have hbxl := blk_lt hbx; have hflag := hbxl; replace hbx := Lib.hid hbx; replace hs0 := Lib.hid hs0) | (refine alloc_new rfl 76 rfl (bv noTag).toArray (by kernel_rfl) ?_; first | (clear hflag; intro w1 hd hs1; have hdl := blk_lt hd; replace hd := Lib.hid hd; replace hs1 := Lib.hid hs1) | (intro w2 hd2 hs2; have hdl2 := blk_lt hd2; replace hd2 := Lib.hid hd2; replace hs2 := Lib.hid hs2)))
    have hs02 := hs1.out.trans hs2.out
    have hbx2 := (hs02.block _ hbxl).trans hbx.out
    have hd3 := (hs2.out.block _ hdl).trans hd.out
    have hsz := hs1.out.size
    have hw2 : Same w w2 := hs0.out.trans hs02
    have c1 := blk_cell hbx2 1
    simp at c1
    clear hbx hd hs0 hs1 hs2 hs02
    replace hbx2 := Lib.hid hbx2
    replace hd3 := Lib.hid hd3
    replace hw2 := Lib.hid hw2
    go_simp
    go_wp2_with (refine load_row rfl _ _ rfl w.heap.size rfl _ _ _ _ hbx2.out Try.underlying71 rfl hinfK.out ?_)
    refine (hkey.out _).mono ?_
    rintro e w3 ⟨v3, rfl, ho3, hs3⟩
    obtain ⟨ko, kc, rfl, hksl⟩ := ho3.sl
    have hdt := (hs3.block _ hdl2).trans hd2.out
    have hdr := (hs3.block _ (by omega)).trans hd3.out
    have hw3 := hw2.out.trans hs3
    have hz3 := hs3.size
    clear ho3 hs3 hd2 hd3 hbx2 c1 hw2
    replace hdt := Lib.hid hdt
    replace hdr := Lib.hid hdr
    replace hw3 := Lib.hid hw3
    replace hksl := Lib.hid hksl
    go_wp2_with (refine conv_bytes rfl _ rfl strT byT.under u8T rfl hbs ?_; intro bo bc w4 hbsl hs4; rw [← hD.out] at hbsl; replace hbsl := Lib.hid hbsl; replace hs4 := Lib.hid hs4)
    refine (hmac.out _ _ _ _ _ (hksl.out.same hs4.out) hbsl.out).mono ?_
    rintro e w5 ⟨rfl, hs5⟩
    have hs35 := hs4.out.trans hs5
    have hz5 := hs35.size
    clear hs4 hs5 hbsl hksl hmac
    replace hs35 := Lib.hid hs35
    go_upto_region 5 with (first | (refine alloc_new rfl 29 rfl (bv (List.replicate 32 0)).toArray (by kernel_rfl) ?_; intro w6 hb6 hs6; have hb6l := blk_lt hb6; replace hb6 := Lib.hid hb6; replace hs6 := Lib.hid hs6) | (refine store_row rfl _ _ _ rfl w5.heap.size _ rfl rfl _ _ hb6.out hinfM.out (by rw [List.size_toArray, List.size_toArray, bv_length, bv_length, hMl.out]; rfl) (by simpa using bv_cell) ?_; intro w7 hb7 hk7))
    have hs37 : Same w3 w7 := (hs35.out.trans hs6.out).keep hk7 (fun x hx hv => by omega)
    have hdt7 := (hs37.block _ (by omega)).trans hdt.out
    have hdr7 := (hs37.block _ (by omega)).trans hdr.out
    have hw7 := hw3.out.trans hs37
    have hz7 := hs37.size
    clear hs35 hs6 hk7 hb6 hdt hdr hw3 hs37
    rw [show bv noTag = bv (fillb (T.take 0) 16) from rfl] at hdt7
    replace hdt7 := Lib.hid hdt7
    replace hdr7 := Lib.hid hdr7
    replace hw7 := Lib.hid hw7
    replace hb7 := Lib.hid hb7
    go_simp
    go_wp2
    go_loopw [10] (fun i wr => ∃ k : Nat, k ≤ 16 ∧ i = .int .i64 k ∧ wr.heap[w1.heap.size]? = some (.cells (bv (fillb (T.take k) 16)).toArray 76 (0, 0)) ∧ Keep (· = w1.heap.size) w7 wr) (fun i _ => 16 - (intOf i).toNat)
    case atStart => exact ⟨0, by omega, rfl, hdt7.out, Keep.refl⟩
    case round =>
      obtain ⟨k, hk, rfl, hb, hkp⟩ := hrel
      have hbM := (hkp.block _ (blk_lt hb7.out) (by omega)).trans hb7.out
      have hfl : (fillb (T.take k) 16).length = 16 := fillb_length _ _ (by rw [List.length_take]; omega)
      by_cases hlt : k < 16
      · have cc := dig_cell hbM (j := k) (by rw [hMl.out]; omega)
        rw [hMg.out k hlt] at cc
        have fz := blk_frozen hb k
        have cold := dig_cell hb (j := k) (by rw [hfl]; omega)
        have hset := fillb_set (T.take k) 16 (T.getD k 0) (by rw [List.length_take, hTl.out]; omega)
        have htk : T.take k ++ [T.getD k 0] = T.take (k + 1) := by
          rw [List.take_succ_eq_append_getElem (by rw [hTl.out]; exact hlt)]
          simp [List.getD, hTl.out, hlt]
        rw [htk, show (T.take k).length = k from by rw [List.length_take, hTl.out]; omega] at hset
        have q1 : 0 ≤ (k : Int) := by omega
        have q2 : (k : Int) < 16 := by omega
        have q3 : (k : Int) < 32 := by omega
        obtain ⟨z, hz⟩ : ∃ z, z = T.getD k 0 := ⟨_, rfl⟩
        rw [← hz] at cc hset
        clear hz hbM htk
        replace hset := Lib.hid hset
        replace hb := Lib.hid hb
        replace hkp := Lib.hid hkp
        replace hfl := Lib.hid hfl
        go_wp2
        go_roundw
        case rel => exact ⟨k + 1, by omega, by go_num, (blk_set hb.out).trans (by rw [hset.out]), hkp.out.trans (Keep.setCell (p := (· = w1.heap.size)) _ rfl) (fun _ _ h => h)⟩
        case measure => simp [intOf]; omega
      · obtain rfl : k = 16 := by omega
        rw [List.take_of_length_le (by rw [hTl.out]; exact Nat.le_refl _), fillb_full T 16 hTl.out] at hb
        have hdr8 := (hkp.block _ (by omega) (by omega)).trans hdr7.out
        have hw8 : Same w wr := hw7.out.keep hkp (fun x hx hv => by have := hw7.out.size; omega)
        clear hbM hfl hkp hdr7 hdt7 hb7
        replace hb := Lib.hid hb
        replace hdr8 := Lib.hid hdr8
        replace hw8 := Lib.hid hw8
        go_wp2_with (first | (refine load_row rfl _ _ rfl w1.heap.size rfl _ _ _ _ hb.out Try.underlying76 rfl hinfG.out ?_) | (refine store_row rfl _ _ _ rfl w0.heap.size _ rfl rfl _ _ hdr8.out hinfG.out (by rw [List.size_toArray, List.size_toArray, bv_length, bv_length, hTl.out]; rfl) (by simpa using bv_cell) ?_; intro w9 hb9 hk9; replace hb9 := Lib.hid hb9; replace hk9 := Lib.hid hk9))
        refine bodyPost_ret (v := .tuple #[.agg (bv T).toArray, .int .i64 0]) (results_row2 (p := 6) (q := 7) (ty := 76) rfl _ _ w0.heap.size _ _ _ _ _ rfl rfl hb9.out Try.underlying76 rfl hinfG.out) rfl ?_
        exact ⟨by rw [hT.out]; rfl, hw8.out.keep hk9.out (fun x hx hv => by omega)⟩
def Sha.rcheck (seed : List UInt8) (n : Nat) (id : Int) (body t : List UInt8) : Bool := decide ((Sha.rsign seed n id body).2 = 0) && ((Sha.rsign seed n id body).1 == t)
theorem Sha.rcheck_eq (seed : List UInt8) (n : Nat) (id : Int) (body t : List UInt8) (h : n ≠ 0) : Sha.check seed n id body t = Sha.rcheck seed n id body t := by rw [Sha.check, Sha.rsign_eq _ _ _ _ h, Sha.rcheck]
set_option maxRecDepth 100000 in
set_option maxHeartbeats 800000 in
theorem rcheck_any (w : World) (seed : ByteArray) (n : Nat) (id : Int) (body : ByteArray) (t : List UInt8) (ht : t.length = 16) (hs : seed.size ≤ 1000000) (hb : body.size ≤ 1000000) (hn : n ≤ 1000000) :
    Calls Try.prog 143 #[rkeys seed n, .int .i64 id, .string body, .agg (bv t).toArray] w fun e w' => e = .returned (.bool (Sha.rcheck seed.data.toList n id body.data.toList t)) ∧ Same w w' := by
  have hsg := fun w => rsign_any w seed n id body hs hb hn
  have hXl := Sha.rsign_length seed.data.toList n id body.data.toList
  unfold Sha.rcheck
  obtain ⟨X, hX⟩ : ∃ X, X = Sha.rsign seed.data.toList n id body.data.toList := ⟨_, rfl⟩
  rw [← hX] at hsg hXl ⊢
  have hinfT := Lib.hid (tag_info ht)
  have hinfX := Lib.hid (tag_info hXl)
  have hinfK := Lib.hid (keys_info #[.string seed, .int .i64 n] rfl)
  have he := fun w => tag_eql X.1 t hXl ht w
  obtain ⟨c, hc⟩ : ∃ c, c = (X.1 == t) := ⟨_, rfl⟩
  rw [← hc] at he ⊢
  obtain ⟨E, hE⟩ : ∃ E, E = X.2 := ⟨_, rfl⟩
  unfold RetTag at hsg
  rw [← hE] at hsg ⊢
  clear hX hc hE hs hb hn
  replace hsg := Lib.hid hsg
  replace he := Lib.hid he
  replace hXl := Lib.hid hXl
  replace ht := Lib.hid ht
  by_cases h0 : E = 0
  all_goals
    first | (have hz : ((E : Int) == 0) = true := by simp [h0]) | (have hz : ((E : Int) == 0) = false := by simp; omega)
    go_enter Try.func143, Try.ntmps143
    go_upto_region 1 with (first | (refine box_row rfl _ _ rfl _ rfl hinfK.out ?_; intro w0 hbx hs0; have hbxl := blk_lt hbx; replace hbx := Lib.hid hbx; replace hs0 := Lib.hid hs0) | (refine box_row rfl _ _ rfl _ rfl hinfT.out ?_; intro w1 hd hs1; have hdl := blk_lt hd; replace hd := Lib.hid hd; replace hs1 := Lib.hid hs1))
    have hbx1 := (hs1.out.block _ hbxl).trans hbx.out
    have hw1 := hs0.out.trans hs1.out
    clear hbx hs0 hs1
    replace hbx1 := Lib.hid hbx1
    replace hw1 := Lib.hid hw1
    go_wp2_with (refine load_row rfl _ _ rfl w.heap.size rfl _ _ _ _ hbx1.out Try.underlying71 rfl hinfK.out ?_)
    refine (hsg.out _).mono ?_
    rintro e w2 ⟨rfl, hs2⟩
    have hd2 := (hs2.block _ hdl).trans hd.out
    have hw2 := hw1.out.trans hs2
    have hz2 := hs2.size
    clear hd hbx1 hs2 hw1
    replace hd2 := Lib.hid hd2
    replace hw2 := Lib.hid hw2
    go_upto_region 2 with (first | (refine alloc_new rfl 76 rfl (bv noTag).toArray (by kernel_rfl) ?_; intro w3 hb3 hs3; have hb3l := blk_lt hb3; replace hb3 := Lib.hid hb3; replace hs3 := Lib.hid hs3) | (refine store_row rfl _ _ _ rfl w2.heap.size _ rfl rfl _ _ hb3.out hinfX.out (by rw [List.size_toArray, List.size_toArray, bv_length, bv_length, hXl.out]; rfl) (by simpa using bv_cell) ?_; intro w4 hb4 hk4))
    have hs24 : Same w2 w4 := hs3.out.keep hk4 (fun x hx hv => by omega)
    have hd4 := (hs24.block _ (by omega)).trans hd2.out
    have hw4 := hw2.out.trans hs24
    have he := he.out
    have hgd := tag_guard
    clear hk4 hs3 hb3 hs24 hw2
    replace hw4 := Lib.hid hw4
    replace hd4 := Lib.hid hd4
    replace hb4 := Lib.hid hb4
    go_simp
    go_wp2_with (first | (refine load_row rfl _ _ rfl w2.heap.size rfl _ _ _ _ hb4.out Try.underlying76 rfl hinfX.out ?_) | (refine load_row rfl _ _ rfl w0.heap.size rfl _ _ _ _ hd4.out Try.underlying76 rfl hinfT.out ?_))
    go_ret
    exact ⟨by simp [h0], hw4.out⟩
end Go.Proofs.Ytgdkhiihdoekaaa
