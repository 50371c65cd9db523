/-
  The document's digest (raddleref03): padded, Bytes.
-/
import Derived.Test.YtmacgmmjgdmleaaRef1
import Derived.Test.YtmacgmmjgdmleaaDig1
namespace Go.Proofs.Ytmacgmmjgdmleaa
open Go Go.RowKit
set_option linter.unusedSimpArgs false
set_option linter.unusedVariables false

def Sha.padTo (l : List UInt8) (k : Nat) : List UInt8 := l ++ [128] ++ List.replicate k 0
theorem Sha.padTo_succ (l : List UInt8) (k : Nat) : Sha.padTo l (k + 1) = Sha.padTo l k ++ [0] := by
  simp [Sha.padTo, List.replicate_succ']
theorem Sha.padTo_length (l : List UInt8) (k : Nat) : (Sha.padTo l k).length = l.length + 1 + k := by
  simp [Sha.padTo]
  omega
set_option maxRecDepth 100000 in
theorem Sha.be8_take (n j : Nat) (h : j < 8) : (Sha.be8 n).take (j + 1) = (Sha.be8 n).take j ++ [UInt8.ofNat (n / 2 ^ (56 - 8 * j))] := by
  have hl : (Sha.be8 n).length = 8 := by rw [Sha.be8, List.length_map, List.length_range]
  rw [List.take_succ_eq_append_getElem (by rw [hl]; exact h)]
  have he : (Sha.be8 n)[j]'(by rw [hl]; exact h) = UInt8.ofNat (n / 2 ^ (56 - 8 * j)) := by
    unfold Sha.be8
    rw [List.getElem_map, List.getElem_range]
  rw [he]
theorem byte_shift (n k : Nat) : ([Value.int .u8 ((n : Int) / 2 ^ k % 256)] : List Value) = bv [UInt8.ofNat (n / 2 ^ k)] := by
  have h : (n : Int) / 2 ^ k % 256 = ((UInt8.ofNat (n / 2 ^ k)).toNat : Int) := by
    rw [UInt8.toNat_ofNat', show (2 : Int) ^ k = ((2 ^ k : Nat) : Int) from by simp, ← Int.natCast_ediv]
    omega
  rw [h]
  rfl
set_option maxRecDepth 100000 in
set_option maxHeartbeats 1600000 in
theorem padded_any (ao : Option Addr) (len cap : Nat) (l : List UInt8) (w : World) (hsl : Sl w 1 ao len cap (bv l)) (hmax : len ≤ 1099511627776) :
    Calls Try.prog 148 #[.slice ao len cap] w (RetB w (Sha.pad l)) := by
  have hlen : l.length = len := by have := hsl.len; rw [bv_length] at this; omega
  replace hlen := Lib.hid hlen
  have hown := Own.empty w 5 1
  have hsl2 := hsl.same (Same.alloc Same.refl (.cells #[] 5))
  obtain ⟨Z, hZ⟩ : ∃ Z, Z = Sha.zeros len := ⟨_, rfl⟩
  have hZ2 : Z < 64 ∧ ∀ k, k ≤ Z → ((len + 1 + k) % 64 = 56 ↔ k = Z) := by
    rw [hZ]
    unfold Sha.zeros
    exact ⟨by omega, fun k hk => by omega⟩
  replace hZ := Lib.hid hZ
  replace hZ2 := Lib.hid hZ2
  go_enter Try.func148, Try.ntmps148
  go_wp2_with (at_builtin; refine append_sl rfl _ _ rfl byT hown rfl rfl hsl2 bv_cell (by simp) (by omega) (by omega) ?_)
  intro v' w2 ho hk _
  have hs1 : Same w w2 := (Same.alloc Same.refl _).keep hk (fun x hx hv => by simp [Value.ownBlock] at hv; omega)
  clear hk hown hsl2
  have hsz1 := hs1.size
  go_wp2_with (at_builtin; refine append_own (l := [.int .u8 128]) rfl _ _ rfl byT ho rfl rfl rfl (by simp [Value.oneCell']) hsz1 (by omega) (by omega) ?_)
  intro v3 w3 ho3 hk3 _
  have hs3 : Same w w3 := hs1.keep hk3 (fun x hx hv => by have := ho.base x hv; omega)
  have e0 : bv l ++ [.int .u8 128] = bv (Sha.padTo l 0) := by simp [bv, Sha.padTo]
  rw [e0] at ho3
  clear hk3 e0 ho hs1 hsz1
  replace ho3 := Lib.hid ho3
  replace hs3 := Lib.hid hs3
  go_wp2
  go_loopw [3] (fun v wr => ∃ k : Nat, k ≤ Z ∧ Own wr w.heap.size 5 1 v (len + 1 + k) (bv (Sha.padTo l k)) ∧ Same w wr) (fun v _ => len + 1 + Z - lenOf v)
  case atStart => exact ⟨0, by omega, ho3.out, hs3.out⟩
  case round =>
    obtain ⟨k, hk, ho, hs⟩ := hrel
    have hz := (hZ2.out.2 k hk)
    have hzl := hZ2.out.1
    have hsz := hs.size
    obtain ⟨M, hM⟩ : ∃ M, M = len + 1 + k := ⟨_, rfl⟩
    rw [← hM] at ho hz
    have htm : (M : Int).tmod 64 = ((M % 64 : Nat) : Int) := by rw [Int.tmod_eq_emod_of_nonneg (by omega)]; omega
    obtain ⟨ao1, c1, rfl, hsl1⟩ := ho.sl
    have hMb : M ≤ 1099511627900 := by omega
    by_cases hkz : k = Z
    · have h56 : M % 64 = 56 := hz.2 hkz
      rw [h56] at htm
      subst hkz
      replace hM := Lib.hid hM
      replace hs := Lib.hid hs
      clear hz h56 hzl
      replace hsl1 := Lib.hid hsl1
      go_wp2
      obtain ⟨A, hA⟩ : ∃ A, A = Sha.be8 (8 * len) := ⟨_, rfl⟩
      have hAt := fun j h => Sha.be8_take (8 * len) j h
      rw [← hA] at hAt
      replace hAt := Lib.hid hAt
      replace hA := Lib.hid hA
      go_loopw [3, 5] (fun v i wx => ∃ j : Nat, j ≤ 8 ∧ i = .int .i64 (7 - (j : Int)) ∧ Own wx w.heap.size 5 1 v (M + j) (bv (Sha.padTo l k ++ A.take j)) ∧ Same w wx) (fun _ i _ => (intOf i + 1).toNat)
      case atStart => exact ⟨0, by omega, rfl, by simpa using ho, hs.out⟩
      case round =>
        clear ho hs hsl1
        obtain ⟨j, hj, rfl, ho, hs⟩ := hrel
        by_cases hlt : j < 8
        · have hsz := hs.size
          have q0 : 0 ≤ 7 - (j : Int) := by omega
          have q1 : 7 - (j : Int) ≤ 7 := by omega
          go_wp2_with (at_builtin; refine append_own (l := [.int .u8 (8 * (len : Int) / 2 ^ (8 * (7 - j)) % 256)]) rfl _ _ rfl byT ho rfl rfl rfl (by simp [Value.oneCell']) hsz (by omega) (by omega) ?_)
          intro v4 w4 ho4 hk4 _
          have e1 : bv (Sha.padTo l k ++ A.take j) ++ [.int .u8 (8 * (len : Int) / 2 ^ (8 * (7 - j)) % 256)] = bv (Sha.padTo l k ++ A.take (j + 1)) := by
            have h1 := byte_shift (8 * len) (8 * (7 - j))
            rw [hAt.out j hlt, show 56 - 8 * j = 8 * (7 - j) from by omega, ← List.append_assoc, bv_append (Sha.padTo l k ++ A.take j), ← h1]
            simp
          rw [e1] at ho4
          have hs4 := hs.keep hk4 (fun x hx hv => by have := ho.base x hv; omega)
          clear hk4 e1
          go_wp2
          go_roundw
          case rel => exact ⟨j + 1, by omega, by go_num, by rw [← Nat.add_assoc]; exact ho4, hs4⟩
          case measure => simp [intOf]; omega
        · obtain rfl : j = 8 := by omega
          have hA8 : A.take 8 = A := List.take_of_length_le (by rw [hA.out, Sha.be8, List.length_map, List.length_range]; exact Nat.le_refl _)
          have e2 : Sha.padTo l k ++ A.take 8 = Sha.pad l := by
            rw [hA8, hA.out, hZ.out, ← hlen.out]
            rfl
          rw [e2] at ho
          have hpl : (Sha.pad l).length = M + 8 := by
            rw [← e2, List.length_append, Sha.padTo_length, hlen.out, hM.out, hA8, hA.out, Sha.be8, List.length_map, List.length_range]
          clear e2 hA8
          replace hpl := Lib.hid hpl
          go_wp2
          go_ret
          exact ⟨_, rfl, by rw [hpl.out]; exact ho, hs⟩
    · have h56 : ¬ M % 64 = 56 := fun h => hkz (hz.1 h)
      obtain ⟨q, hq⟩ : ∃ q, q = M % 64 := ⟨_, rfl⟩
      rw [← hq] at htm h56
      have h57 : ((q : Int) != 56) = true := by simp; omega
      replace hM := Lib.hid hM
      replace hs := Lib.hid hs
      clear hz hq hzl
      replace hsl1 := Lib.hid hsl1
      go_wp2_with (at_builtin; refine append_own (l := [.int .u8 0]) rfl _ _ rfl byT ho rfl rfl rfl (by simp [Value.oneCell']) hsz (by omega) (by omega) ?_)
      intro v4 w4 ho4 hk4 _
      have e1 : bv (Sha.padTo l k) ++ [.int .u8 0] = bv (Sha.padTo l (k + 1)) := by rw [Sha.padTo_succ]; simp [bv]
      rw [e1] at ho4
      have hs4 := hs.out.keep hk4 (fun x hx hv => by have := ho.base x hv; omega)
      obtain ⟨ao2, c2, rfl, hsl2⟩ := ho4.sl
      clear hk4 e1 hsl2
      go_wp2
      go_roundw
      case rel => exact ⟨k + 1, by omega, by have := hM.out; rw [← Nat.add_assoc, ← this]; exact ho4, hs4⟩
      case measure =>
        have := hM.out
        simp [lenOf]
        omega
theorem bytes_cell {w : World} {b T : Nat} {l : List UInt8} {k : Nat} (hl : l.length = 32) (h : w.heap[b]? = some (.cells (bv l).toArray T (0, 0))) (hk : k < 32) : w.cell? ⟨b, k, none⟩ = some (.int .u8 ((l.getD k 0).toNat : Int)) := dig_cell h (by omega)
set_option maxRecDepth 100000 in
set_option maxHeartbeats 800000 in
theorem bytes_any (l : List UInt8) (hl : l.length = 32) (w : World) :
    Calls Try.prog 143 #[.agg (bv l).toArray] w (RetB w l) := by
  have hinf := Lib.hid (dig_info hl)
  go_enter Try.func143, Try.ntmps143
  go_wp2_with (refine box_row rfl _ _ rfl _ rfl hinf.out ?_; intro w0 hbx hs0; have hb0 := blk_lt hbx; replace hbx := Lib.hid hbx; replace hs0 := Lib.hid hs0)
  go_loopw [3, 4] (fun v i wr => ∃ k : Nat, k ≤ 32 ∧ i = .int .i64 k ∧ Own wr w0.heap.size 5 1 v k (bv (l.take k)) ∧ Same w0 wr) (fun _ i _ => 32 - (intOf i).toNat)
  case atStart => exact ⟨0, by omega, rfl, Own.nil _ _ _ _, Same.refl⟩
  case round =>
    obtain ⟨k, hk, rfl, ho, hs⟩ := hrel
    by_cases hlt : k < 32
    · have q0 : 0 ≤ (k : Int) := by omega
      have q1 : (k : Int) < 32 := by omega
      have cl := bytes_cell hl ((hs.block _ hb0).trans hbx.out) hlt
      have hts : l.take (k + 1) = l.take k ++ [l.getD k 0] := by
        rw [List.take_add_one]
        simp [List.getD, show k < l.length by omega]
      obtain ⟨c, hc⟩ : ∃ c, c = l.getD k 0 := ⟨_, rfl⟩
      rw [← hc] at cl hts
      clear hc
      replace hts := Lib.hid hts
      have hsz := hs.size
      go_wp2_with (at_builtin; refine append_own (l := [.int .u8 (c.toNat : Int)]) rfl _ _ rfl byT ho rfl rfl rfl (by simp [Value.oneCell']) hsz (by omega) (by omega) ?_)
      intro v2 w2 ho2 hk2 _
      rw [← bv_one, ← bv_append, ← hts.out] at ho2
      have hs2 := hs.keep hk2 (fun x hx hv => by have := ho.base x hv; omega)
      clear hk2
      go_wp2
      go_roundw
      case rel => exact ⟨k + 1, by omega, by go_num, ho2, hs2⟩
      case measure => simp [intOf]; omega
    · obtain rfl : k = 32 := by omega
      rw [List.take_of_length_le (by omega)] at ho
      go_wp2
      go_ret
      exact ⟨_, rfl, by rw [hl]; exact Own.lower ho (Nat.le_of_lt hb0), hs0.out.trans hs⟩
end Go.Proofs.Ytmacgmmjgdmleaa
