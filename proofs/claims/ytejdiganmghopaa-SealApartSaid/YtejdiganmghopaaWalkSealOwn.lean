/-
  The walk of the law SealOwn: a tag that was made is taken, one with another byte is not.
-/
-- @law str, int, str, int, u8
import Derived.Test.YtejdiganmghopaaSeal2
import Derived.Test.YtejdiganmghopaaLives4
import Derived.Test.YtejdiganmghopaaRd
import Derived.Deep.DeepCutAuto
namespace Go.Proofs.Ytejdiganmghopaa
open Go Go.RowKit
set_option linter.unusedSimpArgs false
set_option linter.unusedVariables false

theorem wrap_u64 (c : Int) : ∃ m : Nat, IntKind.u64.wrap c = (m : Int) ∧ m < 18446744073709551616 := by
  refine ⟨(c % 18446744073709551616).toNat, ?_, ?_⟩
  · rw [show IntKind.u64.wrap c = c % 18446744073709551616 from by simp [IntKind.wrap, IntKind.signed, IntKind.bits]]
    omega
  · omega
theorem set_xor (T : List UInt8) (i : Nat) (x : UInt8) (hi : i < T.length) : (T == T.set i (T.getD i 0 ^^^ x)) = decide (x = 0) := by
  have hg : T.getD i 0 = T[i] := by simp [List.getD, hi]
  rw [hg]
  by_cases hx : x = 0
  · subst hx
    simp
  · rw [decide_eq_false hx, beq_eq_false_iff_ne]
    intro h
    have h1 : T[i]? = (T.set i (T[i] ^^^ x))[i]? := by rw [← h]
    rw [List.getElem?_set_self hi, List.getElem?_eq_getElem hi] at h1
    injection h1 with h1
    apply hx
    have h2 : T[i] ^^^ T[i] = T[i] ^^^ (T[i] ^^^ x) := congrArg (T[i] ^^^ ·) h1
    rw [UInt8.xor_self, ← UInt8.xor_assoc, UInt8.xor_self, UInt8.zero_xor] at h2
    exact h2.symm
set_option maxRecDepth 100000 in
set_option maxHeartbeats 400000 in
theorem own_big (w : World) (seed : ByteArray) (id : Int) (body : ByteArray) (at' turn : Int) (h : 64 < seed.size ∨ seed.size ≤ 64 ∧ 2000 < body.size) :
    Calls Try.prog 13 #[.string seed, .int .i64 id, .string body, .int .i64 at', .int .u8 turn] w fun e w' => e = .returned (.bool true) ∧ Same w w' := by
  have hl := Lib.hid lives4
  rcases h with h | ⟨h, h'⟩
  all_goals
    go_enter Try.func13, Try.ntmps13
    go_wp2_with fail
    refine (hl.out _).mono ?_
    rintro e w2 ⟨rfl, hs2⟩
    go_wp2
    go_ret
    exact ⟨rfl, hs2⟩
set_option maxRecDepth 100000 in
set_option maxHeartbeats 1600000 in
theorem own_main (w : World) (seed : ByteArray) (id : Int) (body : ByteArray) (at' : Int) (turn : UInt8) (h1 : seed.size ≤ 64) (h2 : body.size ≤ 2000) :
    Calls Try.prog 13 #[.string seed, .int .i64 id, .string body, .int .i64 at', .int .u8 (turn.toNat : Int)] w fun e w' => e = .returned (.bool true) ∧ Same w w' := by
  have hl := Lib.hid lives4
  obtain ⟨a, ha, hab⟩ := wrap_u64 id
  obtain ⟨b, hb, hbb⟩ := wrap_u64 at'
  obtain ⟨m, hm⟩ : ∃ m : Nat, m = a % 4096 := ⟨_, rfl⟩
  obtain ⟨i, hi⟩ : ∃ i : Nat, i = b % 16 := ⟨_, rfl⟩
  have hm4 : m < 4096 := by omega
  have hi16 : i < 16 := by omega
  have hd := Lib.hid (fun w => derive_some w seed 4096 (by omega) (by omega) h1)
  have hsg := fun w p h => sign_any w p seed 4096 (m : Int) body h (by omega) (by omega) (by omega)
  have hck := fun w p t ht h => check_any w p seed 4096 (m : Int) body t ht h (by omega) (by omega) (by omega)
  have hr : Sha.sign seed.data.toList 4096 (m : Int) body.data.toList = (Sha.tagOf seed.data.toList (m : Int) body.data.toList, 0) := by rw [Sha.sign, if_neg (by decide), if_neg (by omega)]
  unfold Sha.check at hck
  rw [hr] at hsg hck
  have hTl := Sha.tagOf_length seed.data.toList (m : Int) body.data.toList
  obtain ⟨T, hT⟩ : ∃ T, T = Sha.tagOf seed.data.toList (m : Int) body.data.toList := ⟨_, rfl⟩
  rw [← hT] at hsg hck hTl
  simp only [decide_true, Bool.true_and] at hck
  have hck1 := fun w p h => hck w p T hTl h
  rw [show (T == T) = true from by simp] at hck1
  have hU := set_xor T i turn (by omega)
  have hUl : (T.set i (T.getD i 0 ^^^ turn)).length = 16 := by rw [List.length_set, hTl]
  have hset : (bv T).toArray.setIfInBounds i (.int .u8 ((T.getD i 0 ^^^ turn).toNat : Int)) = (bv (T.set i (T.getD i 0 ^^^ turn))).toArray := by simp [bv, List.map_set]
  obtain ⟨U, hUe⟩ : ∃ U, U = T.set i (T.getD i 0 ^^^ turn) := ⟨_, rfl⟩
  rw [← hUe] at hU hUl hset
  have hck2 := fun w p h => hck w p U hUl h
  rw [hU] at hck2
  have hx := u8_xor_words (T.getD i 0) turn
  obtain ⟨z, hz⟩ : ∃ z, z = T.getD i 0 ^^^ turn := ⟨_, rfl⟩
  rw [← hz] at hx hset
  obtain ⟨y, hy⟩ : ∃ y, y = T.getD i 0 := ⟨_, rfl⟩
  rw [← hy] at hx
  have hinfT := Lib.hid (tag_info hTl)
  have hinfU := Lib.hid (tag_info hUl)
  unfold RetTag at hsg
  have hmI : wrap64 ((IntKind.u64.wrap id).tmod 4096) = (m : Int) := by
    rw [ha, Int.tmod_eq_emod_of_nonneg (by omega)]
    unfold wrap64
    omega
  have hiI : wrap64 ((IntKind.u64.wrap at').tmod 16) = (i : Int) := by
    rw [hb, Int.tmod_eq_emod_of_nonneg (by omega)]
    unfold wrap64
    omega
  have hm0 : 0 ≤ (m : Int) := by omega
  have hi0 : 0 ≤ (i : Int) := by omega
  have hi1 : (i : Int) < 16 := by omega
  clear hT hr hck hUe hz hU
  replace ha := Lib.hid ha
  replace hb := Lib.hid hb
  replace hm := Lib.hid hm
  replace hi := Lib.hid hi
  replace hmI := Lib.hid hmI
  replace hiI := Lib.hid hiI
  replace hsg := Lib.hid hsg
  replace hck1 := Lib.hid hck1
  replace hck2 := Lib.hid hck2
  replace hTl := Lib.hid hTl
  replace hUl := Lib.hid hUl
  replace hset := Lib.hid hset
  replace hx := Lib.hid hx
  replace hy := Lib.hid hy
  go_enter Try.func13, Try.ntmps13
  have h1' : (seed.size : Int) ≤ 64 := by omega
  have h2' : (body.size : Int) ≤ 2000 := by omega
  go_wp2_with fail
  refine (hd.out _).mono ?_
  rintro e w1 ⟨p, rfl, hka, hs1⟩
  replace hka := Lib.hid hka
  replace hs1 := Lib.hid hs1
  go_upto_region 5 with fail
  rw [hmI.out]
  have hsg1 := Lib.hid (hsg.out _ _ hka.out)
  go_wp2_with fail
  refine hsg1.out.mono ?_
  rintro e w2 ⟨rfl, hs2⟩
  replace hs2 := Lib.hid hs2
  go_upto_region 6 with (first | (refine alloc_new rfl 91 rfl (bv noTag).toArray (by kernel_rfl) ?_; intro w3 hb3 hs3; have hb3l := blk_lt hb3; replace hb3 := Lib.hid hb3; replace hs3 := Lib.hid hs3) | (refine store_row rfl _ _ _ rfl w2.heap.size _ rfl rfl _ _ hb3.out hinfT.out (by rw [List.size_toArray, List.size_toArray, bv_length, bv_length, hTl.out]; rfl) (by simpa using bv_cell) ?_; intro w4 hb4 hk4))
  have hs14 : Same w1 w4 := (hs2.out.trans hs3.out).keep hk4 (fun x hx hv => by have := hs2.out.size; omega)
  have hka4 := hka.out.same hs14
  have hw4 := hs1.out.trans hs14
  have hb4l := blk_lt hb4
  clear hk4 hs3 hb3 hs2 hs14 hka hs1 hsg1
  replace hka4 := Lib.hid hka4
  replace hb4 := Lib.hid hb4
  replace hw4 := Lib.hid hw4
  have hc1 := Lib.hid (hck1.out _ _ hka4.out)
  go_simp
  go_wp2_with (refine load_row rfl _ _ rfl w2.heap.size rfl _ _ _ _ hb4.out Try.underlying91 rfl hinfT.out ?_)
  refine hc1.out.mono ?_
  rintro e w5 ⟨rfl, hs5⟩
  have hb5 := (hs5.block _ hb4l).trans hb4.out
  have hka5 := hka4.out.same hs5
  have hw5 := hw4.out.trans hs5
  have hb5l := blk_lt hb5
  clear hs5 hb4 hka4 hw4 hc1
  replace hka5 := Lib.hid hka5
  replace hb5 := Lib.hid hb5
  replace hw5 := Lib.hid hw5
  go_upto_region 9 with (first | (refine load_row rfl _ _ rfl w2.heap.size rfl _ _ _ _ hb5.out Try.underlying91 rfl hinfT.out ?_) | (refine alloc_new rfl 91 rfl (bv noTag).toArray (by kernel_rfl) ?_; intro w6 hb6 hs6; have hb6l := blk_lt hb6; replace hb6 := Lib.hid hb6; replace hs6 := Lib.hid hs6) | (refine store_row rfl _ _ _ rfl w5.heap.size _ rfl rfl _ _ hb6.out hinfT.out (by rw [List.size_toArray, List.size_toArray, bv_length, bv_length, hTl.out]; rfl) (by simpa using bv_cell) ?_; intro w7 hb7 hk7))
  have hs57 : Same w5 w7 := hs6.out.keep hk7 (fun x hx hv => by omega)
  have hka7 := hka5.out.same hs57
  have hw7 := hw5.out.trans hs57
  have cc := dig_cell hb7 (j := i) (by rw [hTl.out]; exact hi16)
  rw [← hy.out] at cc
  have fz := blk_frozen hb7 i
  have hb8 := (blk_set hb7 (i := i) (v := .int .u8 (z.toNat : Int))).trans (by rw [hset.out])
  have hk8 : Keep (· = w5.heap.size) w7 (w7.setCell ⟨w5.heap.size, i, none⟩ (.int .u8 (z.toNat : Int))) := Keep.setCell _ rfl
  obtain ⟨w8, hw8⟩ : ∃ w8, w8 = w7.setCell ⟨w5.heap.size, i, none⟩ (.int .u8 (z.toNat : Int)) := ⟨_, rfl⟩
  rw [← hw8] at hb8 hk8
  have hs58 : Same w5 w8 := hs57.keep hk8 (fun x hx hv => by omega)
  have hka8 := hka5.out.same hs58
  have hw8s := hw5.out.trans hs58
  have hb8l := blk_lt hb8
  clear hk7 hs6 hb6 hb5 hka5 hw5 hka7 hw7 hs57 hs58 hk8
  replace hka8 := Lib.hid hka8
  replace hw8s := Lib.hid hw8s
  replace hb7 := Lib.hid hb7
  replace hw8 := Lib.hid hw8
  replace hb8 := Lib.hid hb8
  have hiI' := hiI.out
  have hx' := hx.out
  go_simp
  go_upto_region 10 with fail
  rw [← hw8.out]
  clear cc fz hb7 hw8 hiI' hx'
  have hc2 := Lib.hid (hck2.out _ _ hka8.out)
  go_wp2_with (refine load_row rfl _ _ rfl w5.heap.size rfl _ _ _ _ hb8.out Try.underlying91 rfl hinfU.out ?_)
  refine hc2.out.mono ?_
  rintro e w9 ⟨rfl, hs9⟩
  have hw9 := hw8s.out.trans hs9
  clear hs9 hb8 hka8 hw8s hc2
  replace hw9 := Lib.hid hw9
  by_cases ht : turn = 0
  · subst ht
    go_wp2_with fail
    refine (hl.out _).mono ?_
    rintro e wa ⟨rfl, hsa⟩
    go_wp2
    go_ret
    exact ⟨rfl, hw9.out.trans hsa⟩
  · have ht1 : ((turn.toNat : Int) == 0) = false := by
      simp
      intro h
      exact ht (UInt8.toNat_inj.1 (by simpa using h))
    have ht2 : decide (turn = 0) = false := decide_eq_false ht
    rw [ht2]
    go_wp2_with fail
    refine (hl.out _).mono ?_
    rintro e wa ⟨rfl, hsa⟩
    go_wp2
    go_ret
    exact ⟨rfl, hw9.out.trans hsa⟩
theorem walk_SealOwn (w : World) (seed : ByteArray) (hs : seed.size ≤ maxLen) (id : Int) (hn : (Lit.int .i64 id).wf = true) (body : ByteArray) (hb : body.size ≤ maxLen) (at' : Int) (ha : (Lit.int .i64 at').wf = true) (turn : Int) (ht : (Lit.int .u8 turn).wf = true) :
    Calls Try.prog 13 #[.string seed, .int .i64 id, .string body, .int .i64 at', .int .u8 turn] w fun e w' => e = .returned (.bool true) ∧ Same w w' := by
  by_cases h : 64 < seed.size ∨ seed.size ≤ 64 ∧ 2000 < body.size
  · exact own_big w seed id body at' turn h
  · have hb := bounds_u8 ht
    obtain ⟨x, rfl⟩ : ∃ x : UInt8, turn = (x.toNat : Int) := ⟨UInt8.ofNat turn.toNat, by rw [UInt8.toNat_ofNat']; omega⟩
    exact own_main w seed id body at' x (by omega) (by omega)
end Go.Proofs.Ytejdiganmghopaa
