/-
  The walk of the law DigestCuts: however bytes are cut, it answers true and turns nothing that was there.
-/
-- @law bytes, ints
import Derived.Test.YteokeidclgfgnaaCut
import Derived.Test.YteokeidclgfgnaaEq
import Derived.Deep.DeepCutAuto
namespace Go.Proofs.Yteokeidclgfgnaa
open Go Go.RowKit
set_option linter.unusedSimpArgs false
set_option linter.unusedVariables false

set_option maxRecDepth 100000 in
set_option maxHeartbeats 400000 in
theorem cuts_big (ao : Option Addr) (len cap : Nat) (io : Option Addr) (ilen icap : Nat) (w : World) (h : 5000 < len ∨ len ≤ 5000 ∧ 500 < ilen) :
    Calls Try.prog 3 #[.slice ao len cap, .slice io ilen icap] w fun e w' => e = .returned (.bool true) ∧ Same w w' := by
  have hl := Lib.hid lives3
  rcases h with h | ⟨h, h'⟩
  all_goals
    go_enter Try.func3, Try.ntmps3
    go_wp2_with fail
    refine (hl.out _).mono ?_
    rintro e w2 ⟨rfl, hs2⟩
    go_wp2
    go_ret
    exact ⟨rfl, hs2⟩
theorem u64_wrap_nat (c : Int) : ∃ m : Nat, IntKind.u64.wrap c = (m : Int) ∧ m < 18446744073709551616 := by
  refine ⟨(c % 18446744073709551616).toNat, ?_, ?_⟩
  · rw [show IntKind.u64.wrap c = c % 18446744073709551616 from by simp [IntKind.wrap, IntKind.signed, IntKind.bits]]
    omega
  · omega
theorem Sl.takeAny {w : World} {sz n c k : Nat} {ao : Option Addr} {xs : List Value} (h : Sl w sz ao n c xs) (hk : k ≤ n) : Sl w sz ao k c (xs.take (k * sz)) := by
  rcases ao with _ | b
  · have h0 := h.nil rfl
    have h1 := h.cap
    obtain rfl : k = 0 := by omega
    exact ⟨by simp, by omega, h.most, fun _ => h0, fun b hb => by cases hb⟩
  · exact h.take hk
theorem Sl.dropAny {w : World} {sz n c k : Nat} {ao : Option Addr} {xs : List Value} (h : Sl w sz ao n c xs) (hk : k ≤ n) : Sl w sz (if c = k then ao else ao.map (·.add (k * sz))) (n - k) (c - k) (xs.drop (k * sz)) := by
  have hcap := h.cap
  by_cases hc : c = k
  · rw [if_pos hc]
    have hn : n = k := by omega
    have e : xs.drop (k * sz) = [] := List.drop_of_length_le (by rw [h.len, hn]; exact Nat.le_refl _)
    rw [e, hn, Nat.sub_self]
    exact ⟨by simp, by omega, by have := h.most; omega, fun hz => by omega, fun b _ j u hu => by simp at hu⟩
  · rw [if_neg hc]
    rcases ao with _ | b
    · have := h.nil rfl
      omega
    · exact h.drop hk
set_option maxRecDepth 100000 in
set_option maxHeartbeats 3200000 in
theorem cuts_main (ao : Option Addr) (len cap : Nat) (l : List UInt8) (io : Option Addr) (ilen icap : Nat) (cs : List Int) (w : World) (hsl : Sl w 1 ao len cap (bv l)) (hlen : len ≤ 5000) (hisl : Sl w 1 io ilen icap (iv cs)) (hilen : ilen ≤ 500) :
    Calls Try.prog 3 #[.slice ao len cap, .slice io ilen icap] w fun e w' => e = .returned (.bool true) ∧ Same w w' := by
  have hl := Lib.hid lives3
  have hlx : l.length = len := by have := hsl.len; rw [bv_length] at this; omega
  have hcx : cs.length = ilen := by have := hisl.len; rw [iv_length] at this; omega
  have icap2 := hisl.cap
  replace hsl := Lib.hid hsl
  replace hisl := Lib.hid hisl
  replace hlx := Lib.hid hlx
  replace hcx := Lib.hid hcx
  go_enter Try.func3, Try.ntmps3
  go_wp2
  go_loopw [5, 6, 22] (fun v r i wr => ∃ (k : Nat) (bs : List (List UInt8)) (vs : List Value) (rl : List UInt8) (ra : Option Addr) (rn rc : Nat), k ≤ ilen ∧ i = .int .i64 k ∧ r = .slice ra rn rc ∧ Own wr w.heap.size 22 1 v k vs ∧ Sls w vs bs ∧ bs.length = k ∧ bs.flatten ++ rl = l ∧ Sl w 1 ra rn rc (bv rl) ∧ Same w wr) (fun _ _ i _ => ilen - (intOf i).toNat)
  case atStart => exact ⟨0, [], [], l, ao, len, cap, by omega, rfl, rfl, Own.nil _ _ _ _, Sls.nil w, rfl, rfl, hsl.out, Same.refl⟩
  case round =>
    obtain ⟨k, bs, vs, rl, ra, rn, rc, hk, rfl, rfl, ho, hvs, hbl, hfl, hrs, hs⟩ := hrel
    have hrn : rl.length = rn := by have := hrs.len; rw [bv_length] at this; omega
    have hrl : rn ≤ len := by
      have h1 := congrArg List.length hfl
      rw [List.length_append] at h1
      have := hlx.out
      omega
    have hrcap := hrs.cap
    have hrmost := hrs.most
    unfold maxLen at hrmost
    by_cases hlt : k < ilen
    · obtain ⟨bk, off, rfl, hbk, hcell⟩ := hisl.out.at (by intro h; rw [iv, List.map_eq_nil_iff] at h; have := hcx.out; rw [h] at this; simp at this; omega)
      have hkc : k < cs.length := by rw [hcx.out]; exact hlt
      have cc := hs.cell (hcell k _ (iv_get hkc))
      obtain ⟨c, hc⟩ : ∃ c, c = cs[k] := ⟨_, rfl⟩
      rw [← hc] at cc
      obtain ⟨m, hm, hm2⟩ := u64_wrap_nat c
      have q0 : 0 ≤ (k : Int) := by omega
      have q1 : (k : Int) < (ilen : Int) := by omega
      clear hc hcell hkc
      replace ho := Lib.hid ho
      replace hvs := Lib.hid hvs
      replace hfl := Lib.hid hfl
      replace hrs := Lib.hid hrs
      replace hs := Lib.hid hs
      replace hbl := Lib.hid hbl
      replace hrn := Lib.hid hrn
      obtain ⟨p, hp⟩ : ∃ p, p = m % (rn + 1) := ⟨_, rfl⟩
      have hpr : p ≤ rn := by rw [hp]; exact Nat.le_of_lt_succ (Nat.mod_lt _ (by omega))
      have hpw : wrap64 ((m : Int) % ((rn : Int) + 1)) = (p : Int) := by
        rw [show ((m : Int) % ((rn : Int) + 1)) = (p : Int) from by rw [hp]; simp]
        unfold wrap64
        omega
      clear hp
      have hsz := hs.out.size
      have hrs2 := hrs.out
      have hfirst := hrs2.takeAny hpr
      rw [Nat.mul_one, bv_take] at hfirst
      replace hfirst := Lib.hid hfirst
      replace hrs2 := Lib.hid hrs2
      replace hpw := Lib.hid hpw
      clear hm2
      have g1 : (k + 1) * 24 ≤ 140737488355328 := by omega
      have g2 : k + 1 ≤ 140737488355328 := by omega
      go_upto_region 8 with fail
      go_cut [9] (fun v wx => v = .int .i64 (p : Int) ∧ wx = wr)
      case first =>
        have hpw2 := hpw.out
        go_wp2
        go_meet
        exact ⟨congrArg (Value.int .i64) hpw.out, rfl⟩
      case rest =>
        obtain ⟨rfl, rfl⟩ := hcut
        go_wp2_with (at_builtin; refine append_own (l := [.slice ra p rc]) rfl _ _ rfl rowT ho.out rfl rfl rfl (by simp [Value.oneCell']) hsz g1 g2 ?_; intro v4 w4 ho4 hk4 _)
        go_roundw
        case rel =>
          have h1 := hrs2.out.dropAny hpr
          rw [Nat.mul_one, bv_drop] at h1
          refine ⟨k + 1, bs ++ [rl.take p], vs ++ [.slice ra p rc], rl.drop p, _, _, _, by omega, by go_num, rfl, ho4, hvs.out.snoc hfirst.out, by simp [hbl.out], ?_, h1, hs.out.keep hk4 (fun x hx hv => by have := ho.out.base x hv; omega)⟩
          rw [List.flatten_append, ← hfl.out]
          simp
        case measure => simp [intOf]; omega
    · obtain rfl : k = ilen := by omega
      have hfl2 : (bs ++ [rl]).flatten = l := by rw [List.flatten_append, ← hfl]; simp
      have hvs2 := (hvs.snoc hrs)
      have hsz := hs.size
      have hll : l.length < 2 ^ 49 := by rw [hlx.out]; exact Nat.lt_of_le_of_lt hlen (by decide)
      obtain ⟨d, hd⟩ : ∃ d, d = Sha.sum l := ⟨_, rfl⟩
      have hdl : d.length = 32 := by rw [hd, Sha.sum_length]
      have hso := fun w e ao n c h => sum_one l w e ao n c h hll
      rw [← hd] at hso
      replace hso := Lib.hid hso
      have heq := fun w => dig_eql d d hdl hdl w
      rw [beq_self_eq_true] at heq
      replace heq := Lib.hid heq
      replace hd := Lib.hid hd
      replace hfl2 := Lib.hid hfl2
      replace hvs2 := Lib.hid hvs2
      replace hs := Lib.hid hs
      have g1 : (k + 1) * 24 ≤ 140737488355328 := by omega
      have g2 : k + 1 ≤ 140737488355328 := by omega
      clear hvs hfl hrs
      go_wp2_with (at_builtin; refine append_own (l := [.slice ra rn rc]) rfl _ _ rfl rowT ho rfl rfl rfl (by simp [Value.oneCell']) hsz g1 g2 ?_; intro v4 w4 ho4 hk4 _)
      obtain ⟨po, pc, rfl, hpsl⟩ := ho4.sl
      have hs4 : Same w w4 := hs.out.keep hk4 (fun x hx hv => by have := ho.base x hv; omega)
      have hsum := sum_any po (k + 1) pc _ _ w4 hpsl (hvs2.out.same hs4) (by rw [hfl2.out]; exact Nat.lt_of_lt_of_le hll (by decide))
      rw [hfl2.out, ← hd.out] at hsum
      replace hsum := Lib.hid hsum
      clear hk4 ho4 hpsl
      go_wp2_with fail
      refine (hsum.out).mono ?_
      rintro e w5 ⟨rfl, hs5⟩
      have hs05 := hs4.trans hs5
      have hb5 := hsl.out.same hs05
      clear hs4 hs5
      go_wp2_with fail
      refine (hso.out _ _ _ _ _ hb5).mono ?_
      rintro e w6 ⟨rfl, hs6⟩
      have heq := heq.out
      have hgd := dig_guard
      go_wp2_with fail
      refine (hl.out _).mono ?_
      rintro e w7 ⟨rfl, hs7⟩
      go_wp2
      go_ret
      exact ⟨rfl, (hs05.trans hs6).trans hs7⟩
theorem walk_DigestCuts (w : World) (ao : Option Addr) (len cap : Nat) (l : List UInt8) (hsl : Sl w 1 ao len cap (bv l)) (io : Option Addr) (ilen icap : Nat) (cs : List Int) (hisl : Sl w 1 io ilen icap (iv cs)) (_hw : ∀ n ∈ cs, (Lit.int .i64 n).wf = true) :
    Calls Try.prog 3 #[.slice ao len cap, .slice io ilen icap] w fun e w' => e = .returned (.bool true) ∧ Same w w' := by
  by_cases h : 5000 < len ∨ len ≤ 5000 ∧ 500 < ilen
  · exact cuts_big ao len cap io ilen icap w h
  · exact cuts_main ao len cap l io ilen icap cs w hsl (by omega) hisl (by omega)
end Go.Proofs.Yteokeidclgfgnaa
