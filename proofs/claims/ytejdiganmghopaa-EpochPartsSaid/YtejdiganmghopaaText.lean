/-
  The digest's Text.
-/
import Derived.Test.YtejdiganmghopaaSha5
import Derived.Test.YtejdiganmghopaaTails
import Derived.ChangeKeysEq
namespace Go.Proofs.Ytejdiganmghopaa
open Go Go.RowKit
set_option linter.unusedSimpArgs false
set_option linter.unusedVariables false

/-- A half byte's digit. -/
def Sha.hexd (n : Nat) : UInt8 := if n < 10 then UInt8.ofNat (48 + n) else UInt8.ofNat (87 + n)
def Sha.text (l : List UInt8) : List UInt8 := l.flatMap fun b => [Sha.hexd (b.toNat / 16), Sha.hexd (b.toNat % 16)]
theorem Sha.text_abc : Sha.text (Sha.sum [97, 98, 99]) = [98, 97, 55, 56, 49, 54, 98, 102, 56, 102, 48, 49, 99, 102, 101, 97, 52, 49, 52, 49, 52, 48, 100, 101, 53, 100, 97, 101, 50, 50, 50, 51, 98, 48, 48, 51, 54, 49, 97, 51, 57, 54, 49, 55, 55, 97, 57, 99, 98, 52, 49, 48, 102, 102, 54, 49, 102, 50, 48, 48, 49, 53, 97, 100] := by decide +kernel
theorem Sha.text_nil : Sha.text (Sha.sum []) = [101, 51, 98, 48, 99, 52, 52, 50, 57, 56, 102, 99, 49, 99, 49, 52, 57, 97, 102, 98, 102, 52, 99, 56, 57, 57, 54, 102, 98, 57, 50, 52, 50, 55, 97, 101, 52, 49, 101, 52, 54, 52, 57, 98, 57, 51, 52, 99, 97, 52, 57, 53, 57, 57, 49, 98, 55, 56, 53, 50, 98, 56, 53, 53] := by decide +kernel
theorem Sha.text_take (l : List UInt8) (k : Nat) (h : k < l.length) : Sha.text (l.take (k + 1)) = Sha.text (l.take k) ++ [Sha.hexd ((l.getD k 0).toNat / 16), Sha.hexd ((l.getD k 0).toNat % 16)] := by
  have e : l.take (k + 1) = l.take k ++ [l.getD k 0] := by
    rw [List.take_add_one]
    simp [List.getD, h]
  rw [e, Sha.text, List.flatMap_append]
  rfl
theorem Sha.text_length (l : List UInt8) : (Sha.text l).length = 2 * l.length := by
  induction l with
  | nil => rfl
  | cons b l ih =>
    simp only [Sha.text, List.flatMap_cons, List.length_append, List.length_cons, List.length_nil] at ih ⊢
    omega
theorem arr_index (l : List UInt8) (hl : l.length = 32) (k : Nat) (hk : k < 32) (w : World) : (Instr.index 25 (.agg (bv l).toArray) (.int .i64 (k : Int))).run Try.prog w = .ok (.int .u8 ((l.getD k 0).toNat : Int)) w := by
  have h1 : (bv l).toArray[k]? = some (.int .u8 ((l.getD k 0).toNat : Int)) := by
    have hk2 : k < l.length := by omega
    rw [List.getElem?_toArray, bv_get hk2]
    simp [List.getD, hk2]
  have h2 : (k : Int) < 32 := by omega
  have h3 := run_part_plain (P := Try.prog) (e := 5) (by kernel_rfl) (w := w) h1
  have h4 : (sizeOf 5).run Try.prog w = .ok 1 w := by kernel_rfl
  simp [Instr.index, run_underlying Try.underlying25, asIntOf, Sem.run_bind, Result.andThen, hk, h3, h4]
theorem hex_get : ∀ k : Nat, (h : k < 16) → ({ data := #[48, 49, 50, 51, 52, 53, 54, 55, 56, 57, 97, 98, 99, 100, 101, 102] } : ByteArray)[k].toNat = (Sha.hexd k).toNat := by
  intro k hk
  rcases k with _ | _ | _ | _ | _ | _ | _ | _ | _ | _ | _ | _ | _ | _ | _ | _ | k <;> first | omega | rfl
set_option maxRecDepth 100000 in
set_option maxHeartbeats 1600000 in
theorem dtext_any (l : List UInt8) (hl : l.length = 32) (w : World) :
    Calls Try.prog 63 #[.agg (bv l).toArray] w fun e w' => e = .returned (.string ⟨(Sha.text l).toArray⟩) ∧ Same w w' := by
  have hinf : (Try.prog.info? 25).map (·.size) = some (bv l).toArray.size := by
    rw [List.size_toArray, bv_length, hl]
    kernel_rfl
  replace hinf := Lib.hid hinf
  go_enter Try.func63, Try.ntmps63
  go_wp2_with (first | (refine box_row rfl _ _ rfl _ rfl hinf.out ?_; intro w0 hbx hs0; have hb0 := blk_lt hbx; replace hbx := Lib.hid hbx; replace hs0 := Lib.hid hs0) | (refine make_cap rfl _ _ rfl byT .i64 .i64 _ 64 rfl rfl rfl (by omega) (by omega) ?_; intro w1 ho1 hs1 hz1; replace ho1 := Lib.hid ho1; have hbx1 := (hs1.block _ hb0).trans hbx.out; replace hbx1 := Lib.hid hbx1; replace hs1 := Lib.hid hs1; replace hz1 := Lib.hid hz1) | (refine load_row rfl _ _ rfl w.heap.size rfl _ _ _ _ hbx1.out Try.underlying25 rfl hinf.out ?_))
  go_loopw [3, 8] (fun v i wr => ∃ k : Nat, k ≤ 32 ∧ i = .int .i64 k ∧ Own wr w0.heap.size 5 1 v (2 * k) (bv (Sha.text (l.take k))) ∧ Same w0 wr) (fun _ i _ => 32 - (intOf i).toNat)
  case atStart => exact ⟨0, by omega, rfl, ho1.out, hs1.out⟩
  case round =>
    obtain ⟨k, hk, rfl, ho, hs⟩ := hrel
    by_cases hlt : k < 32
    · have hkl := Sha.text_take l k (by omega)
      obtain ⟨c, hc⟩ : ∃ c, c = (l.getD k 0).toNat := ⟨_, rfl⟩
      rw [← hc] at hkl
      have hix := arr_index l hl k (by omega)
      rw [← hc] at hix
      have hc2 : c < 256 := by rw [hc]; exact (l.getD k 0).toNat_lt
      clear hc
      obtain ⟨x, hx⟩ : ∃ x, x = Sha.hexd (c / 16) := ⟨_, rfl⟩
      obtain ⟨y, hy⟩ : ∃ y, y = Sha.hexd (c % 16) := ⟨_, rfl⟩
      have h1 := hex_get (c / 16) (by omega)
      have h2 := hex_get (c % 16) (by omega)
      rw [← hx] at h1 hkl
      rw [← hy] at h2 hkl
      clear hx hy
      replace h1 := Lib.hid h1
      replace h2 := Lib.hid h2
      replace hkl := Lib.hid hkl
      replace hs := Lib.hid hs
      replace ho := Lib.hid ho
      go_wp2
      clear hix
      refine wp_region_tails (by kernel_rfl) [(11, 0), (12, 1), (13, 2), (14, 3), (15, 4), (16, 5), (17, 6), (18, 7)] Same (Same _) [isV u3, isV (.int .u8 (c : Int)), isV (.int .u8 ((c / 16 : Nat) : Int)), isV (.int .u8 (x.toNat : Int)), isV (.int .u8 (c : Int)), isV (.int .u8 ((c % 16 : Nat) : Int)), isV (.int .u8 (y.toNat : Int)), isB [x, y]] Same.refl.drew (fun _ _ h k => h.trans k) (by simp [isV_stable, isB_stable, isAny_stable]) (by decide) (l := [_, _, _, _, _, _, _, _]) rfl (by decide) (by kernel_rfl) ?_ ?_
      · refine ⟨?_, ?_, ?_, ?_, ?_, ?_, ?_, ?_, trivial⟩
        all_goals (intro u wx hI hp; simp only [mkAct, List.foldl_cons, List.foldl_nil, List.setIfInBounds_toArray, List.set_cons_succ, List.set_cons_zero])
        · -- operation 0
          go_wp2
          refine stq_v rfl Same.refl ?_
          first | (simp only [mkAct, List.foldl_cons, List.foldl_nil, List.setIfInBounds_toArray, List.set_cons_succ, List.set_cons_zero, upd, reduceIte, Nat.reduceEqDiff, Nat.reduceAdd, str]; done) | (simp [mkAct, upd, str, *]; done)
        · -- operation 1
          go_wp2
          refine stq_v rfl Same.refl ?_
          first | (simp only [mkAct, List.foldl_cons, List.foldl_nil, List.setIfInBounds_toArray, List.set_cons_succ, List.set_cons_zero, upd, reduceIte, Nat.reduceEqDiff, Nat.reduceAdd, str]; done) | (simp [mkAct, upd, str, *]; done)
        · -- operation 2
          obtain ⟨f1, -⟩ := hp
          replace f1 : u 1 = (.int .u8 (c : Int)) := f1
          try simp only [f1, str]
          go_wp2
          refine stq_v rfl Same.refl ?_
          first | (simp only [mkAct, List.foldl_cons, List.foldl_nil, List.setIfInBounds_toArray, List.set_cons_succ, List.set_cons_zero, upd, reduceIte, Nat.reduceEqDiff, Nat.reduceAdd, f1, str]; done) | (simp [mkAct, upd, f1, str, *]; done)
        · -- operation 3
          obtain ⟨f2, -⟩ := hp
          replace f2 : u 2 = (.int .u8 ((c / 16 : Nat) : Int)) := f2
          try simp only [f2, str]
          have h1 := h1.out
          go_wp2
          refine stq_v rfl Same.refl ?_
          first | (simp only [mkAct, List.foldl_cons, List.foldl_nil, List.setIfInBounds_toArray, List.set_cons_succ, List.set_cons_zero, upd, reduceIte, Nat.reduceEqDiff, Nat.reduceAdd, f2, str]; done) | (simp [mkAct, upd, f2, str, *]; done)
        · -- operation 4
          go_wp2
          refine stq_v rfl Same.refl ?_
          first | (simp only [mkAct, List.foldl_cons, List.foldl_nil, List.setIfInBounds_toArray, List.set_cons_succ, List.set_cons_zero, upd, reduceIte, Nat.reduceEqDiff, Nat.reduceAdd, str]; done) | (simp [mkAct, upd, str, *]; done)
        · -- operation 5
          obtain ⟨f4, -⟩ := hp
          replace f4 : u 4 = (.int .u8 (c : Int)) := f4
          try simp only [f4, str]
          go_wp2
          refine stq_v rfl Same.refl ?_
          first | (simp only [mkAct, List.foldl_cons, List.foldl_nil, List.setIfInBounds_toArray, List.set_cons_succ, List.set_cons_zero, upd, reduceIte, Nat.reduceEqDiff, Nat.reduceAdd, f4, str]; done) | (simp [mkAct, upd, f4, str, *]; done)
        · -- operation 6
          obtain ⟨f5, -⟩ := hp
          replace f5 : u 5 = (.int .u8 ((c % 16 : Nat) : Int)) := f5
          try simp only [f5, str]
          have h2 := h2.out
          go_wp2
          refine stq_v rfl Same.refl ?_
          first | (simp only [mkAct, List.foldl_cons, List.foldl_nil, List.setIfInBounds_toArray, List.set_cons_succ, List.set_cons_zero, upd, reduceIte, Nat.reduceEqDiff, Nat.reduceAdd, f5, str]; done) | (simp [mkAct, upd, f5, str, *]; done)
        · -- operation 7
          obtain ⟨f3, f6, -⟩ := hp
          replace f3 : u 3 = (.int .u8 (x.toNat : Int)) := f3
          replace f6 : u 6 = (.int .u8 (y.toNat : Int)) := f6
          try simp only [f3, f6, str]
          go_wp2
          refine stq_x (.slice (some ⟨wx.heap.size, 0, none⟩) 2 2) rfl ⟨_, _, rfl, sl_boxB ([x, y]) (by unfold maxLen; simp)⟩ (Same.refl.alloc _) ?_
          first | (simp only [mkAct, List.foldl_cons, List.foldl_nil, List.setIfInBounds_toArray, List.set_cons_succ, List.set_cons_zero, upd, reduceIte, Nat.reduceEqDiff, Nat.reduceAdd, f3, f6, str]; done) | (simp [mkAct, upd, f3, f6, str, *]; done)
      · intro u wx hI hR
        obtain ⟨r0, r1, r2, r3, r4, r5, r6, r7, -⟩ := hR
        replace r0 : u 0 = u3 := r0
        replace r1 : u 1 = (.int .u8 (c : Int)) := r1
        replace r2 : u 2 = (.int .u8 ((c / 16 : Nat) : Int)) := r2
        replace r3 : u 3 = (.int .u8 (x.toNat : Int)) := r3
        replace r4 : u 4 = (.int .u8 (c : Int)) := r4
        replace r5 : u 5 = (.int .u8 ((c % 16 : Nat) : Int)) := r5
        replace r6 : u 6 = (.int .u8 (y.toNat : Int)) := r6
        obtain ⟨ao7, c7, r7, hsl7⟩ := r7
        simp only [mkAct, List.foldl_cons, List.foldl_nil, List.setIfInBounds_toArray, List.set_cons_succ, List.set_cons_zero]
        try simp only [str, r0, r1, r2, r3, r4, r5, r6, r7]
        have ho2 := ho.out.same hI
        have hs2 := hs.out.trans hI
        have hsz := hs2.size
        go_wp2_with (at_builtin; refine append_sl rfl _ _ rfl byT ho2 rfl rfl hsl7 bv_cell hsz (by simp; omega) (by simp; omega) ?_; intro v' w2 hown2 hk2 hat)
        rw [← bv_append, ← hkl.out] at hown2
        have hs3 : Same w0 w2 := hs2.keep hk2 (fun x hx hv => by have := ho2.base x hv; omega)
        clear hk2 hat ho2 hs2
        go_wp2
        go_roundw
        case rel => exact ⟨k + 1, by omega, by go_num, by simpa [Nat.mul_add] using hown2, hs3⟩
        case measure => simp [intOf]; omega
    · obtain rfl : k = 32 := by omega
      rw [List.take_of_length_le (by omega)] at ho
      obtain ⟨ao, c, rfl, hsl⟩ := ho.sl
      go_wp2_with (refine conv_string rfl _ rfl byT u8T strT rfl hsl ?_)
      go_ret
      exact ⟨rfl, hs0.out.trans hs⟩
end Go.Proofs.Ytejdiganmghopaa
