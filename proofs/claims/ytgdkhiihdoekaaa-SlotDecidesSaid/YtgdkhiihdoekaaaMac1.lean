/-
  The seal's Mac, the program's.
-/
import Derived.Test.YtgdkhiihdoekaaaLives3
import Derived.Test.YtgdkhiihdoekaaaCut
import Derived.Test.YtgdkhiihdoekaaaRef1
import Derived.Deep.DeepCutAuto
import Derived.StillTailTactics
namespace Go.Proofs.Ytgdkhiihdoekaaa
open Go Go.RowKit
set_option linter.unusedSimpArgs false
set_option linter.unusedVariables false

/-- A key's block. -/
def Sha.kblk (key : List UInt8) : List UInt8 := (if 64 < key.length then Sha.sum key else key) ++ List.replicate (64 - (if 64 < key.length then Sha.sum key else key).length) 0
theorem Sha.kblk_length (key : List UInt8) : (Sha.kblk key).length = 64 := by
  unfold Sha.kblk
  by_cases h : 64 < key.length
  · rw [if_pos h, List.length_append, List.length_replicate, Sha.sum_length]
  · rw [if_neg h, List.length_append, List.length_replicate]
    omega
def Sha.xorl (l : List UInt8) (x : UInt8) : List UInt8 := l.map (· ^^^ x)
theorem Sha.xorl_length (l : List UInt8) (x : UInt8) : (Sha.xorl l x).length = l.length := by simp [Sha.xorl]
def Sha.mac (key b : List UInt8) : List UInt8 := Sha.sum (Sha.xorl (Sha.kblk key) 0x5c ++ Sha.sum (Sha.xorl (Sha.kblk key) 0x36 ++ b))
def xorPart (l : List UInt8) (x : UInt8) (k : Nat) : List UInt8 := (Sha.xorl l x).take k ++ l.drop k
theorem xorPart_length (l : List UInt8) (x : UInt8) (k : Nat) (h : k ≤ l.length) : (xorPart l x k).length = l.length := by
  simp [xorPart, Sha.xorl]
  omega
theorem xorPart_get (l : List UInt8) (x : UInt8) (k : Nat) (h : k < l.length) : (xorPart l x k).getD k 0 = l.getD k 0 := by
  have h1 : ((Sha.xorl l x).take k).length = k := by rw [List.length_take, Sha.xorl_length]; omega
  simp only [xorPart, List.getD]
  rw [List.getElem?_append_right (by omega), h1, Nat.sub_self, List.getElem?_drop, Nat.add_zero]
theorem xorPart_set (l : List UInt8) (x : UInt8) (k : Nat) (h : k < l.length) : (bv (xorPart l x k)).toArray.setIfInBounds k (.int .u8 ((l.getD k 0 ^^^ x).toNat : Int)) = (bv (xorPart l x (k + 1))).toArray := by
  have e : (xorPart l x k).set k (l.getD k 0 ^^^ x) = xorPart l x (k + 1) := by
    have h1 : ((Sha.xorl l x).take k).length = k := by rw [List.length_take, Sha.xorl_length]; omega
    have h2 : (Sha.xorl l x).take (k + 1) = (Sha.xorl l x).take k ++ [l.getD k 0 ^^^ x] := by
      rw [List.take_succ_eq_append_getElem (by rw [Sha.xorl_length]; exact h)]
      simp [Sha.xorl, List.getD, h]
    unfold xorPart
    obtain ⟨z, hz⟩ : ∃ z, l.drop k = z :: l.drop (k + 1) := ⟨_, List.drop_eq_getElem_cons h⟩
    rw [List.set_append_right _ _ (by omega), h1, Nat.sub_self, h2, hz]
    simp
  rw [← e]
  simp [bv, List.map_set]
theorem xorPart_zero (l : List UInt8) (x : UInt8) : xorPart l x 0 = l := by simp [xorPart]
theorem xorPart_all (l : List UInt8) (x : UInt8) (h : l.length = 64) : xorPart l x 64 = Sha.xorl l x := by
  unfold xorPart
  rw [List.take_of_length_le (by rw [Sha.xorl_length, h]; exact Nat.le_refl _), List.drop_of_length_le (by omega), List.append_nil]
theorem u8_xor_words (x y : UInt8) : bits BinOp.xor .u8 (x.toNat : Int) (y.toNat : Int) = ((x ^^^ y).toNat : Int) := by
  rw [u8_xor_nat _ _ x.toNat_lt y.toNat_lt, UInt8.toNat_xor]
theorem blk_info {l : List UInt8} (hl : l.length = 64) : (Try.prog.info? 251).map (·.size) = some (bv l).toArray.size := by
  rw [List.size_toArray, bv_length, hl]
  kernel_rfl
set_option maxRecDepth 100000 in
set_option maxHeartbeats 2000000 in
theorem mac1_any (own : List UInt8) (ho : own.length = 64) (ob : Nat) (x : UInt8) (po : Option Addr) (pn pc : Nat) (vs : List Value) (bs : List (List UInt8)) (w : World) (hob : w.heap[ob]? = some (.cells (bv own).toArray 251 (0, 0))) (hsl : Sl w 1 po pn pc vs) (hp : Sls w vs bs) (hbig : bs.flatten.length < 2 ^ 48) (hpn : pn ≤ 1099511627776) :
    Calls Try.prog 188 #[.int .u8 (x.toNat : Int), .slice po pn pc, .pointer (some ⟨ob, 0, none⟩)] w fun e w' => e = .returned (.agg (bv (Sha.sum (Sha.xorl own x ++ bs.flatten))).toArray) ∧ Same w w' := by
  have hinfo := Lib.hid (blk_info ho)
  have hobl := blk_lt hob
  replace hob := Lib.hid hob
  replace hsl := Lib.hid hsl
  replace hp := Lib.hid hp
  replace hbig := Lib.hid hbig
  go_enter Try.func188, Try.ntmps188
  go_wp2_with (first | (refine alloc_new rfl 29 rfl (bv (List.replicate 32 0)).toArray (by kernel_rfl) ?_; intro w1 hd hs1; have hdl := blk_lt hd; replace hd := Lib.hid hd; have hob1 := (hs1.block _ hobl).trans hob.out; replace hs1 := Lib.hid hs1; replace hob1 := Lib.hid hob1) | (refine load_row rfl _ _ rfl ob rfl _ _ _ _ hob1.out Try.underlying251 rfl hinfo.out ?_) | (refine alloc_new rfl 251 rfl (bv (List.replicate 64 0)).toArray (by kernel_rfl) ?_; intro w2 hb2 hs2; have hb2l := blk_lt hb2; replace hb2 := Lib.hid hb2; replace hs2 := Lib.hid hs2) | (refine store_row rfl _ _ _ rfl w1.heap.size _ rfl rfl _ _ hb2.out hinfo.out (by rw [List.size_toArray, List.size_toArray, bv_length, bv_length, ho]; rfl) (by simpa using bv_cell) ?_; intro w3 hb3 hk3))
  have hs03 : Same w w3 := (hs1.out.trans hs2.out).keep hk3 (fun x hx hv => by omega)
  have hd3 := (hk3.block _ (by omega) (by omega)).trans ((hs2.out.block _ hdl).trans hd.out)
  rw [← xorPart_zero own x] at hb3
  obtain ⟨B5, hB5⟩ : ∃ B, B = w.heap.size := ⟨_, rfl⟩
  obtain ⟨B6, hB6⟩ : ∃ B, B = w1.heap.size := ⟨_, rfl⟩
  rw [← hB6] at hb3 hdl
  rw [← hB5] at hd3 hdl hobl
  rw [← hB5, ← hB6]
  clear hk3 hs1 hs2 hb2 hd hB6 hob1 hb2l
  replace hB5 := Lib.hid hB5
  replace hs03 := Lib.hid hs03
  replace hd3 := Lib.hid hd3
  replace hb3 := Lib.hid hb3
  go_loopw [9] (fun i wr => ∃ k : Nat, k ≤ 64 ∧ i = .int .i64 k ∧ wr.heap[B6]? = some (.cells (bv (xorPart own x k)).toArray 251 (0, 0)) ∧ Keep (· = B6) w3 wr) (fun i _ => 64 - (intOf i).toNat)
  case atStart => exact ⟨0, by omega, rfl, hb3.out, Keep.refl⟩
  case round =>
    obtain ⟨k, hk, rfl, hb, hkp⟩ := hrel
    by_cases hlt : k < 64
    · have cc := dig_cell hb (j := k) (by rw [xorPart_length _ _ _ (by omega)]; omega)
      rw [xorPart_get own x k (by omega)] at cc
      have fz := blk_frozen hb k
      have hset := xorPart_set own x k (by omega)
      obtain ⟨z, hz⟩ : ∃ z, z = own.getD k 0 := ⟨_, rfl⟩
      rw [← hz] at cc hset
      have hx := u8_xor_words z x
      have q0 : 0 ≤ (k : Int) := by omega
      have q1 : (k : Int) < 64 := by omega
      clear hz
      replace hset := Lib.hid hset
      replace hb := Lib.hid hb
      replace hkp := Lib.hid hkp
      replace hx := Lib.hid hx
      go_wp2
      go_roundw
      case rel =>
        rw [hx.out]
        exact ⟨k + 1, by omega, by go_num, (blk_set hb.out).trans (by rw [hset.out]), hkp.out.trans (Keep.setCell (p := (· = B6)) _ rfl) (fun _ _ h => h)⟩
      case measure => simp [intOf]; omega
    · obtain rfl : k = 64 := by omega
      rw [xorPart_all own x ho] at hb
      have hxl := Sha.xorl_length own x
      rw [ho] at hxl
      obtain ⟨X, hX⟩ : ∃ X, X = Sha.xorl own x := ⟨_, rfl⟩
      rw [← hX] at hb hxl
      replace hX := Lib.hid hX
      have hs4 : Same w wr := hs03.out.keep hkp (fun x hx hv => by have := hB5.out; omega)
      have hd4 := (hkp.block _ (blk_lt hd3.out) (by omega)).trans hd3.out
      have hbsl := sl_of_row hb (by rw [bv_length]; exact hxl) (by omega : 64 ≤ 2 ^ 60)
      have hpsl := hsl.out.same hs4
      have hp4 := hp.out.same hs4
      have hsz4 := hs4.size
      clear hkp hlt hd3 hb3 hs03
      replace hd4 := Lib.hid hd4
      replace hs4 := Lib.hid hs4
      replace hp4 := Lib.hid hp4
      have hbox := Own.box (w := wr) (l := [Value.slice (some ⟨B6, 0, none⟩) 64 64]) (e := 143) (sz := 1) (n := 1) rfl (by unfold maxLen; omega)
      have hpsl2 := hpsl.same (Same.alloc Same.refl (.cells #[.slice (some ⟨B6, 0, none⟩) 64 64] 143))
      have hvc : ∀ u ∈ vs, u.oneCell' = true := by
        intro u hu
        obtain ⟨j, hj⟩ := List.getElem?_of_mem hu
        have hjl := (List.getElem?_eq_some_iff.1 hj).1
        obtain ⟨ao, n, c, hv, _⟩ := hp.out.2 j (by rw [← hp.out.1]; exact hjl)
        rw [hv] at hj
        injection hj with hj
        subst hj
        rfl
      go_wp2_with (at_builtin; refine append_sl rfl _ _ rfl rowT hbox rfl rfl hpsl2 hvc (by simp) (by omega) (by omega) ?_)
      intro v5 w5 ho5 hk5 _
      have hs15 : Same wr w5 := (Same.alloc Same.refl _).keep hk5 (fun x hx hv => by simp [Value.ownBlock] at hv; omega)
      obtain ⟨qo, qc, rfl, hqsl⟩ := ho5.sl
      have hd5 := (hs15.block _ (blk_lt hd4.out)).trans hd4.out
      have hfl : (X :: bs).flatten = X ++ bs.flatten := rfl
      have hsum := sum_any qo (1 + pn) qc _ _ w5 hqsl (Sls.cons (hbsl.same hs15) (hp4.out.same hs15)) (by rw [hfl, List.length_append, hxl]; have := hbig.out; omega)
      rw [hfl] at hsum
      have hs05 := hs4.out.trans hs15
      clear hs15 hk5 ho5 hqsl hbox hpsl2 hpsl hbsl
      replace hsum := Lib.hid hsum
      replace hd5 := Lib.hid hd5
      have hinfD := Lib.hid (dig_info (Sha.sum_length (X ++ bs.flatten)))
      go_wp2_with fail
      refine (hsum.out).mono ?_
      rintro e w6 ⟨rfl, hs6⟩
      have hd6 := (hs6.block _ (blk_lt hd5.out)).trans hd5.out
      have hs06 := hs05.trans hs6
      replace hd6 := Lib.hid hd6
      clear hs6 hs05
      go_wp2_with (refine store_row rfl _ _ _ rfl B5 _ rfl rfl _ _ hd6.out hinfD.out (by rw [List.size_toArray, List.size_toArray, bv_length, bv_length, Sha.sum_length]; rfl) (by simpa using bv_cell) ?_; intro w9 hb9 hk9; replace hb9 := Lib.hid hb9; replace hk9 := Lib.hid hk9)
      refine bodyPost_ret (v := .agg (bv (Sha.sum (X ++ bs.flatten))).toArray) (results_row (p := 5) (ty := 29) rfl _ _ B5 _ _ _ _ rfl hb9.out Try.underlying29 rfl hinfD.out) rfl ?_
      exact ⟨by rw [hX.out], hs06.keep hk9.out (fun x hx hv => by have := hB5.out; omega)⟩
end Go.Proofs.Ytgdkhiihdoekaaa
