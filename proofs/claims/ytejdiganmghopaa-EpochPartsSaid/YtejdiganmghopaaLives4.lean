/-
  The chapter's example of seal: it is as the law's 'lives' says.
-/
import Derived.Test.YtejdiganmghopaaMac2
namespace Go.Proofs.Ytejdiganmghopaa
open Go Go.RowKit
set_option linter.unusedSimpArgs false
set_option linter.unusedVariables false

section
variable {P : Program} {ops : Array Oper} {rest : List Oper} {o : Oper} {a : Act} {Q : Exit → Act → World → Prop} {t e : TypeId} {z : Value} {sz by_ : Nat}
/-- 'make([]T, n)', told by its block. -/
theorem make_block {W : World} (hg : Region.wanted o (yielded ops a.tmps) = true) (l c : Operand) (ho : o.op = Op.makeSlice t l c) (hT : SlT P t e z sz by_)
    (kl kc : IntKind) (L C : Int) (n : Nat) (hl : a.eval l = .int kl L) (hc : a.eval c = .int kc C) (hL : L = (n : Int)) (hC : C = (n : Int)) (b2 : by_ * n ≤ 281474976710656) (b3 : n ≤ 281474976710656)
    (h : ∀ w', w'.heap[W.heap.size]? = some (.cells (madeCells z.cells (n * sz)) e (0, 0)) → Same W w' → wpList P ops Q rest (a.put o.dst (.slice (some ⟨W.heap.size, 0, .none⟩) n n)) w') :
    wpList P ops Q (o :: rest) a W := by
  obtain ⟨i0, hi, hz0, hz1, hz2⟩ := info_parts hT.info
  have hrun := run_make (P := P) W t e i0 z hT.under hi hz0 kl kc n n (by omega) (by omega) (by rw [hz2, ← Int.natCast_mul]; omega) (by omega)
  refine wpL hg fun K hK => ?_
  subst hL
  subst hC
  unfold Oper.wp
  simp only [execOp, ho, hl, hc, Sem.run_bind, Sem.run_pure, Result.andThen_ok, hrun]
  refine hK _ _ (h _ ?_ (Same.alloc Same.refl _))
  rw [Int.toNat_natCast, hz1]
  exact heap_alloc_new _ _
end
theorem Sha.mac_ex : Sha.text (Sha.mac (List.replicate 20 11) [72, 105, 32, 84, 104, 101, 114, 101]) = [98, 48, 51, 52, 52, 99, 54, 49, 100, 56, 100, 98, 51, 56, 53, 51, 53, 99, 97, 56, 97, 102, 99, 101, 97, 102, 48, 98, 102, 49, 50, 98, 56, 56, 49, 100, 99, 50, 48, 48, 99, 57, 56, 51, 51, 100, 97, 55, 50, 54, 101, 57, 51, 55, 54, 99, 50, 101, 51, 50, 99, 102, 102, 55] := by decide +kernel
def keyPart (k : Nat) : List UInt8 := List.replicate k 11 ++ List.replicate (20 - k) 0
theorem keyPart_length (k : Nat) (h : k ≤ 20) : (keyPart k).length = 20 := by
  simp [keyPart]
  omega
theorem keyPart_set (k : Nat) (h : k < 20) : (bv (keyPart k)).toArray.setIfInBounds k (.int .u8 11) = (bv (keyPart (k + 1))).toArray := by
  have e : (keyPart k).set k 11 = keyPart (k + 1) := by
    unfold keyPart
    have h2 : List.replicate (20 - k) (0 : UInt8) = 0 :: List.replicate (20 - (k + 1)) 0 := by
      rw [← List.replicate_succ]
      congr 1
      omega
    rw [List.set_append_right _ _ (by simp), List.length_replicate, Nat.sub_self, h2, List.replicate_succ']
    simp
  rw [← e]
  simp [bv, List.map_set]
theorem keyPart_all : keyPart 20 = List.replicate 20 11 := by simp [keyPart]
set_option maxRecDepth 100000 in
set_option maxHeartbeats 2000000 in
theorem lives4 (w : World) : Calls Try.prog 15 #[] w fun e w' => e = .returned (.bool true) ∧ Same w w' := by
  have htx := fun w => dtext_any (Sha.mac (List.replicate 20 11) [72, 105, 32, 84, 104, 101, 114, 101]) (by rw [Sha.mac_eq, Sha.sum_length]) w
  rw [Sha.mac_ex] at htx
  obtain ⟨M, hM⟩ : ∃ M, M = Sha.mac (List.replicate 20 11) [72, 105, 32, 84, 104, 101, 114, 101] := ⟨_, rfl⟩
  rw [← hM] at htx
  replace htx := Lib.hid htx
  replace hM := Lib.hid hM
  go_enter Try.func15, Try.ntmps15
  go_wp2_with (refine make_block rfl _ _ rfl byT .i64 .i64 20 20 20 rfl rfl rfl rfl (by omega) (by omega) ?_)
  intro w1 hb1 hs1
  have e0 : madeCells #[Value.int .u8 0] 20 = (bv (keyPart 0)).toArray := by kernel_rfl
  rw [e0] at hb1
  clear e0
  replace hb1 := Lib.hid hb1
  replace hs1 := Lib.hid hs1
  go_wp2
  go_loopw [6] (fun i wr => ∃ k : Nat, k ≤ 20 ∧ i = .int .i64 k ∧ wr.heap[w.heap.size]? = some (.cells (bv (keyPart k)).toArray 5 (0, 0)) ∧ Keep (· = w.heap.size) w1 wr) (fun i _ => 20 - (intOf i).toNat)
  case atStart => exact ⟨0, by omega, rfl, hb1.out, Keep.refl⟩
  case round =>
    obtain ⟨k, hk, rfl, hb, hkp⟩ := hrel
    by_cases hlt : k < 20
    · have cc := dig_cell hb (j := k) (by rw [keyPart_length _ hk]; omega)
      have fz := blk_frozen hb k
      have hset := keyPart_set k hlt
      have q0 : 0 ≤ (k : Int) := by omega
      have q1 : (k : Int) < 20 := by omega
      replace hset := Lib.hid hset
      replace hb := Lib.hid hb
      replace hkp := Lib.hid hkp
      go_wp2
      go_roundw
      case rel => exact ⟨k + 1, by omega, by go_num, (blk_set hb.out).trans (by rw [hset.out]), hkp.out.trans (Keep.setCell (p := (· = w.heap.size)) _ rfl) (fun _ _ h => h)⟩
      case measure => simp [intOf]; omega
    · obtain rfl : k = 20 := by omega
      rw [keyPart_all] at hb
      have hksl := sl_of_row (n := 20) hb (by simp [bv_length]) (by omega)
      have hs2 : Same w wr := hs1.out.keep hkp (fun x hx hv => by omega)
      clear hb hkp hlt
      replace hksl := Lib.hid hksl
      replace hs2 := Lib.hid hs2
      go_wp2_with (first | (refine conv_const [72, 105, 32] rfl _ rfl byT.under u8T 3 3 rfl (by unfold maxLen; omega) rfl rfl ?_; intro w3 h3 hs3 hz3; clear hz3; replace h3 := Lib.hid h3; replace hs3 := Lib.hid hs3) | (refine conv_const [84, 104, 101, 114, 101] rfl _ rfl byT.under u8T 5 5 rfl (by unfold maxLen; omega) rfl rfl ?_; intro w4 h4 hs4 hz4; clear hz4; replace h4 := Lib.hid h4; replace hs4 := Lib.hid hs4))
      have hs14 := hs2.out.trans (hs3.out.trans hs4.out)
      have hbx := sl_box (w := w4) (e := 22) [.slice (some ⟨wr.heap.size, 0, none⟩) 3 3, .slice (some ⟨w3.heap.size, 0, none⟩) 5 5] 2 rfl (by unfold maxLen; omega)
      have hpx := (Sls.cons (h3.out.same hs4.out) (Sls.cons h4.out (Sls.nil w4))).box (e := 22)
      have hk4 := (hksl.out.same (hs3.out.trans hs4.out)).same (Same.refl.alloc (.cells #[.slice (some ⟨wr.heap.size, 0, none⟩) 3 3, .slice (some ⟨w3.heap.size, 0, none⟩) 5 5] 22))
      have hm := mac_any _ _ 20 20 (List.replicate 20 11) hk4 (by omega) _ 2 2 _ _ hbx hpx (by decide) (by omega)
      have hfl : [[72, 105, 32], [84, 104, 101, 114, (101 : UInt8)]].flatten = [72, 105, 32, 84, 104, 101, 114, 101] := rfl
      rw [hfl, ← hM.out] at hm
      clear hbx hpx hk4 hfl hs2 hs3 hs4 h3 h4
      replace hm := Lib.hid hm
      replace hs14 := Lib.hid hs14
      go_wp2_with fail
      refine hm.out.mono ?_
      rintro e w5 ⟨rfl, hs5⟩
      have hs15 := hs14.out.trans ((Same.refl.alloc _).trans hs5)
      clear hs5
      go_wp2_with fail
      refine (htx.out w5).mono ?_
      rintro e w6 ⟨rfl, hs6⟩
      go_wp2
      go_ret
      exact ⟨rfl, hs15.trans hs6⟩
end Go.Proofs.Ytejdiganmghopaa
