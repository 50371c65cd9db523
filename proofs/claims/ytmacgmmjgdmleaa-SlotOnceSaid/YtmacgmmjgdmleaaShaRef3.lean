/-
  The document's digest of bytes (raddleref03.Sum, Chain).
-/
import Derived.Test.YtmacgmmjgdmleaaShaRef2
import Derived.Test.YtmacgmmjgdmleaaCut
namespace Go.Proofs.Ytmacgmmjgdmleaa
open Go Go.RowKit
set_option linter.unusedSimpArgs false
set_option linter.unusedVariables false

section
variable {P : Program} {ops : Array Oper} {rest : List Oper} {o : Oper} {a : Act} {Q : Exit → Act → World → Prop} {t e : TypeId} {z : Value} {sz by_ : Nat}
/-- 's[k:k+m]'. -/
theorem slice_mid {W : World} {ao : Option Addr} {n c : Nat} {xs : List Value} (hg : Region.wanted o (yielded ops a.tmps) = true) (x low high : Operand) (ho : o.op = .slice t x (some low) (some high) none)
    (hT : SlT P t e z sz by_) (hx : a.eval x = .slice ao n c) (kl kh : IntKind) (L H : Int) (k m : Nat) (hl : a.eval low = .int kl L) (hh : a.eval high = .int kh H) (hL : L = (k : Int)) (hH : H = ((k + m : Nat) : Int)) (hk : k + m ≤ n) (hsl : Sl W sz ao n c xs)
    (h : ∀ ao', Sl W sz ao' m (c - k) ((xs.drop (k * sz)).take (m * sz)) → wpList P ops Q rest (a.put o.dst (.slice ao' m (c - k))) W) : wpList P ops Q (o :: rest) a W := by
  obtain ⟨i0, hi, hz0, hz1, hz2⟩ := info_parts hT.info
  subst hL hH
  have hcap := hsl.cap
  have he : P.elem t = e := by simp [Program.elem, hT.under]
  have ht : P.underlying t = some (.slice (P.elem t)) := by rw [he]; exact hT.under
  have hrun : (Instr.sliceAt t (.slice ao n c) (some (.int kl (k : Int))) (some (.int kh ((k + m : Nat) : Int))) none).run P W = .ok (.slice (if c = k then ao else ao.map (·.add (k * sz))) m (c - k)) W := by
    rw [run_sliceAt_slice W _ _ _ _ _ ht, run_slice_lh W _ _ _ _ ht _ _ _ _ (by omega) (by omega) (by omega), he]
    simp [sizeOf, typeInfo, hi, hz1, Result.andThen, sliced]
    omega
  refine wpL hg fun K hK => ?_
  unfold Oper.wp execOp
  simp only [ho, hx, hl, hh, Option.map_some, Option.map_none, Sem.run_bind, Sem.run_pure, Result.andThen_ok, hrun]
  refine hK _ _ (h _ ?_)
  by_cases hc : c = k
  · rw [if_pos hc]
    obtain rfl : m = 0 := by omega
    simp only [Nat.zero_mul, List.take_zero]
    exact ⟨by simp, by omega, by have := hsl.most; omega, fun _ => by omega, fun b hb j u hu => by simp at hu⟩
  · rw [if_neg hc]
    rcases ao with _ | b
    · have := hsl.nil rfl
      omega
    · exact (hsl.drop (k := k) (by omega)).take (k := m) (by omega)
end
/-- It is a slice of so many bytes. -/
def isBn (n : Nat) (l : List UInt8) : Value → World → Prop := fun v w => ∃ ao c, v = .slice ao n c ∧ Sl w 1 ao n c (bv l)
theorem isBn_stable (n : Nat) (l : List UInt8) : Stable Same (isBn n l) := fun _ _ _ k ⟨ao, c, h, hs⟩ => ⟨ao, c, h, hs.same k⟩
def Sha.dPart (s : Sha.S8) (j : Nat) : List UInt8 := (Sha.bytesOf s).take j ++ List.replicate (32 - j) 0
theorem Sha.bytesOf_length (s : Sha.S8) : (Sha.bytesOf s).length = 32 := by simp [Sha.bytesOf]
theorem Sha.dPart_length (s : Sha.S8) (j : Nat) (h : j ≤ 32) : (Sha.dPart s j).length = 32 := by
  rw [Sha.dPart, List.length_append, List.length_take, Sha.bytesOf_length, List.length_replicate]
  omega
theorem Sha.dPart_set (s : Sha.S8) (j : Nat) (h : j < 32) : (bv (Sha.dPart s j)).toArray.setIfInBounds j (.int .u8 ((Sha.byteOf s j).toNat : Int)) = (bv (Sha.dPart s (j + 1))).toArray := by
  have e : (Sha.dPart s j).set j (Sha.byteOf s j) = Sha.dPart s (j + 1) := by
    unfold Sha.dPart
    have h1 : ((Sha.bytesOf s).take j).length = j := by rw [List.length_take, Sha.bytesOf_length]; omega
    have h2 : List.replicate (32 - j) (0 : UInt8) = 0 :: List.replicate (32 - (j + 1)) 0 := by
      rw [← List.replicate_succ]
      congr 1
      omega
    have h3 : (Sha.bytesOf s).take (j + 1) = (Sha.bytesOf s).take j ++ [Sha.byteOf s j] := by
      rw [List.take_succ_eq_append_getElem (by rw [Sha.bytesOf_length]; exact h)]
      simp [Sha.bytesOf]
    rw [List.set_append_right _ _ (by omega), h1, Nat.sub_self, h2, h3]
    simp
  rw [← e]
  simp [bv, List.map_set]
theorem Sha.dPart_all (s : Sha.S8) : Sha.dPart s 32 = Sha.bytesOf s := by
  rw [Sha.dPart, List.take_of_length_le (by rw [Sha.bytesOf_length]; exact Nat.le_refl _)]
  simp
theorem Sha.fold_block (l : List UInt8) (k : Nat) : Sha.fold Sha.begun l (k + 1) = Sha.block (Sha.fold Sha.begun l k) ((l.drop (64 * k)).take 64) := Sha.fold_succ _ _ _
theorem Sha.byteOf_at (S : Sha.S8) (i q : Nat) (hq : q < 4) : (((S.list.getD i 0).toNat : Int) / 2 ^ (24 - 8 * q) % 256) = ((Sha.byteOf S (4 * i + q)).toNat : Int) := by
  have h1 : (4 * i + q) / 4 = i := by omega
  have h2 : (4 * i + q) % 4 = q := by omega
  rw [Sha.byteOf, h1, h2, UInt8.toNat_ofNat', show (2 : Int) ^ (24 - 8 * q) = ((2 ^ (24 - 8 * q) : Nat) : Int) from by simp, ← Int.natCast_ediv]
  omega
set_option maxRecDepth 100000 in
set_option maxHeartbeats 1000000 in
theorem rsum_any (ao : Option Addr) (len cap : Nat) (l : List UInt8) (w : World) (hsl : Sl w 1 ao len cap (bv l)) (hmax : len ≤ 1099511627776) :
    Calls Try.prog 93 #[.slice ao len cap] w fun e w' => e = .returned (.agg (bv (Sha.sum l)).toArray) ∧ Same w w' := by
  have hlen : l.length = len := by have := hsl.len; rw [bv_length] at this; omega
  have hpl := Sha.pad_length l
  have hpm : (Sha.pad l).length ≤ 1099511628000 := by
    have : Sha.zeros l.length < 64 := zeros_lt _
    rw [Sha.pad]
    simp only [List.length_append, List.length_replicate, Sha.be8, List.length_map, List.length_range, List.length_singleton]
    omega
  have hh := Sha.hash_eq (Sha.pad l)
  have hsum : Sha.sum l = Sha.bytesOf (Sha.hash (Sha.pad l)) := rfl
  rw [hh] at hsum
  obtain ⟨p, hp⟩ : ∃ p, p = Sha.pad l := ⟨_, rfl⟩
  obtain ⟨m, hm⟩ : ∃ m, p.length = 64 * m := ⟨p.length / 64, by rw [hp]; omega⟩
  have hpad := fun w hsl => padded_any ao len cap l w hsl hmax
  rw [← hp] at hpm hsum hpad
  rw [hm, Nat.mul_div_cancel_left m (by omega)] at hsum
  have hm2 : 64 * m ≤ 1099511628000 := by omega
  clear hp hpl hpm hh
  replace hpad := Lib.hid hpad
  replace hm := Lib.hid hm
  replace hsum := Lib.hid hsum
  replace hlen := Lib.hid hlen
  have hblk := Lib.hid rblock_any
  go_enter Try.func93, Try.ntmps93
  go_wp2_with (first | (refine alloc_new rfl 28 rfl (bv (List.replicate 32 0)).toArray (by kernel_rfl) ?_; intro w1 hd hs1; have hd1 := blk_lt hd; replace hd := Lib.hid hd; replace hs1 := Lib.hid hs1) | (refine build_const (.agg (uvs Sha.begun.list).toArray) rfl (ty := 214) rfl (by kernel_rfl) ?_) | (refine alloc_new rfl 214 rfl (uvs (List.replicate 8 0)).toArray (by kernel_rfl) ?_; intro w2 hb2 hs2; have hb2l := blk_lt hb2; replace hb2 := Lib.hid hb2; replace hs2 := Lib.hid hs2) | (refine store_row rfl _ _ _ rfl w1.heap.size _ rfl rfl _ _ hb2.out (uvs_info Sha.begun) rfl (uvs_all _) ?_; intro w3 hb3 hk3; replace hb3 := Lib.hid hb3; replace hk3 := Lib.hid hk3))
  have hsl3 := (hsl.same ((hs1.out.trans hs2.out).keep hk3.out (fun x hx hv => by omega)))
  have hd3 := (hk3.out.block _ (by have := hs2.out.size; omega) (by omega)).trans ((hs2.out.block _ hd1).trans hd.out)
  have hs03 : Same w w3 := (hs1.out.trans hs2.out).keep hk3.out (fun x hx hv => by omega)
  obtain ⟨B2, hB2⟩ : ∃ B, B = w.heap.size := ⟨_, rfl⟩
  obtain ⟨B3, hB3⟩ : ∃ B, B = w1.heap.size := ⟨_, rfl⟩
  rw [← hB3] at hb3 hd1
  rw [← hB2] at hd3 hd1
  rw [← hB2, ← hB3]
  clear hB3 hk3 hd hs1 hs2 hb2
  replace hB2 := Lib.hid hB2
  replace hd3 := Lib.hid hd3
  replace hs03 := Lib.hid hs03
  replace hsl3 := Lib.hid hsl3
  refine (hpad.out _ hsl3.out).mono ?_
  rintro e w4 ⟨v4, rfl, ho4, hs4⟩
  obtain ⟨po, pc, rfl, hpsl⟩ := ho4.sl
  have hb4 := (hs4.block _ (blk_lt hb3.out)).trans hb3.out
  have hd4 := (hs4.block _ (blk_lt hd3.out)).trans hd3.out
  have hs04 := hs03.out.trans hs4
  have hpne : ∀ b, po = some b → w3.heap.size ≤ b.block := fun b hb => by subst hb; exact ho4.base b.block rfl
  have hlt3 := blk_lt hb3.out
  obtain ⟨M, hM⟩ : ∃ M, M = p.length := ⟨_, rfl⟩
  rw [← hM] at hpsl
  rw [← hM]
  have hM2 : M = 64 * m := hM.trans hm.out
  clear hs4 ho4 hM hb3 hd3 hs03
  replace hb4 := Lib.hid hb4
  replace hd4 := Lib.hid hd4
  replace hs04 := Lib.hid hs04
  replace hpsl := Lib.hid hpsl
  replace hpne := Lib.hid hpne
  have hM3 : M ≤ 1099511628000 := by omega
  replace hM2 := Lib.hid hM2
  have hpc := hpsl.out.cap
  have hpm := hpsl.out.most
  unfold maxLen at hpm
  go_wp2
  go_loopw [5] (fun i wr => ∃ k : Nat, k ≤ m ∧ i = .int .i64 ((64 * k : Nat) : Int) ∧ wr.heap[B3]? = some (.cells (uvs (Sha.fold Sha.begun p k).list).toArray 214 (0, 0)) ∧ Keep (· = B3) w4 wr) (fun i _ => M - (intOf i).toNat)
  case atStart => exact ⟨0, by omega, rfl, by rw [Sha.fold_zero]; exact hb4.out, Keep.refl⟩
  case round =>
    clear hb4
    obtain ⟨k, hk, rfl, hb, hkp⟩ := hrel
    by_cases hlt : k < m
    · -- [[A
      have hM2' := hM2.out
      have hpr := hpsl.out.keep hkp (fun b hb _ hx => by have := hpne.out b hb; omega)
      have hfs := Sha.fold_succ Sha.begun p k
      have hbl3 := blk_lt hb
      have hinfS := uvs_info (Sha.fold Sha.begun p k)
      obtain ⟨S, hS⟩ : ∃ S, S = Sha.fold Sha.begun p k := ⟨_, rfl⟩
      rw [← hS] at hfs hb hinfS
      obtain ⟨c, hc⟩ : ∃ c, c = (p.drop (64 * k)).take 64 := ⟨_, rfl⟩
      have hcl : c.length = 64 := by
        rw [hc, List.length_take, List.length_drop, hm.out]
        omega
      rw [← hc] at hfs
      have hinfT := Lib.hid (uvs_info (Sha.block S c))
      obtain ⟨J, hJ⟩ : ∃ J, J = 64 * k := ⟨_, rfl⟩
      rw [← hJ]
      have g1 : J + 64 ≤ M := by omega
      have g2 : ((J : Int) + 64) = ((J + 64 : Nat) : Int) := by omega
      have hbk := fun w ao c' h => hblk.out S c hcl ao 64 c' w h
      clear hS hlt
      replace hc := Lib.hid hc
      replace hJ := Lib.hid hJ
      replace hfs := Lib.hid hfs
      replace hb := Lib.hid hb
      replace hkp := Lib.hid hkp
      replace hpr := Lib.hid hpr
      replace hinfS := Lib.hid hinfS
      replace g2 := Lib.hid g2
      replace hbk := Lib.hid hbk
      replace hcl := Lib.hid hcl
      clear hM2'
      go_wp2
      refine wp_region_last (by kernel_rfl) [(18, 0), (19, 1), (20, 2), (21, 3), (22, 4), (23, 5), (24, 6)] Same (Same _) [isV (.agg (uvs S.list).toArray), isV (.slice po M pc), isV (.int .i64 (J : Int)), isV (.int .i64 (J : Int)), isV (.int .i64 ((J : Int) + 64)), isBn 64 c, isV (.agg (uvs (Sha.block S c).list).toArray)] Same.refl.drew (fun _ _ h k => h.trans k) (by simp [isV_stable, isB_stable, isAny_stable, isBn_stable]) (by decide) (l := [_, _, _, _, _, _, _]) rfl (by decide) (by decide) ?_ ?_
      · refine ⟨?_, ?_, ?_, ?_, ?_, ?_, ?_, trivial⟩
        all_goals (intro u wx hI hp; simp only [mkAct, List.foldl_cons, List.foldl_nil, List.setIfInBounds_toArray, List.set_cons_succ, List.set_cons_zero])
        · -- operation 0
          go_wp2_with (refine load_row rfl _ _ rfl B3 rfl _ _ _ _ ((hI.block _ hbl3).trans hb.out) Try.underlying214 rfl hinfS.out ?_)
          refine stq_v rfl Same.refl ?_
          first | (simp only [mkAct, List.foldl_cons, List.foldl_nil, List.setIfInBounds_toArray, List.set_cons_succ, List.set_cons_zero, upd, reduceIte, Nat.reduceEqDiff, Nat.reduceAdd, str]; done) | (simp [mkAct, upd, str, *]; done)
        · -- operation 1
          go_wp2
          refine stq_v rfl Same.refl ?_
          first | (simp only [mkAct, List.foldl_cons, List.foldl_nil, List.setIfInBounds_toArray, List.set_cons_succ, List.set_cons_zero, upd, reduceIte, Nat.reduceEqDiff, Nat.reduceAdd, str]; done) | (simp [mkAct, upd, str, *]; done)
        · -- operation 2
          go_wp2
          refine stq_v rfl Same.refl ?_
          first | (simp only [mkAct, List.foldl_cons, List.foldl_nil, List.setIfInBounds_toArray, List.set_cons_succ, List.set_cons_zero, upd, reduceIte, Nat.reduceEqDiff, Nat.reduceAdd, str]; done) | (simp [mkAct, upd, str, *]; done)
        · -- operation 3
          go_wp2
          refine stq_v rfl Same.refl ?_
          first | (simp only [mkAct, List.foldl_cons, List.foldl_nil, List.setIfInBounds_toArray, List.set_cons_succ, List.set_cons_zero, upd, reduceIte, Nat.reduceEqDiff, Nat.reduceAdd, str]; done) | (simp [mkAct, upd, str, *]; done)
        · -- operation 4
          obtain ⟨f3, -⟩ := hp
          replace f3 : u 3 = (.int .i64 (J : Int)) := f3
          try simp only [f3, str]
          go_wp2
          refine stq_v rfl Same.refl ?_
          first | (simp only [mkAct, List.foldl_cons, List.foldl_nil, List.setIfInBounds_toArray, List.set_cons_succ, List.set_cons_zero, upd, reduceIte, Nat.reduceEqDiff, Nat.reduceAdd, f3, str]; done) | (simp [mkAct, upd, f3, str, *]; done)
        · -- operation 5
          obtain ⟨f1, f2, f4, -⟩ := hp
          replace f1 : u 1 = (.slice po M pc) := f1
          replace f2 : u 2 = (.int .i64 (J : Int)) := f2
          replace f4 : u 4 = (.int .i64 ((J : Int) + 64)) := f4
          try simp only [f1, f2, f4, str]
          have hcc := hpr.out.same hI
          go_wp2_with (refine slice_mid rfl _ _ _ rfl byT rfl _ _ _ _ J 64 rfl rfl rfl g2.out g1 hcc ?_; intro ao' hsl')
          have e1 : ((bv p).drop (J * 1)).take (64 * 1) = bv c := by rw [Nat.mul_one, Nat.mul_one, bv_drop, bv_take, hc.out, hJ.out]
          rw [e1] at hsl'
          refine stq_x (.slice ao' 64 (pc - J)) rfl ⟨_, _, rfl, hsl'⟩ Same.refl ?_
          first | (simp only [mkAct, List.foldl_cons, List.foldl_nil, List.setIfInBounds_toArray, List.set_cons_succ, List.set_cons_zero, upd, reduceIte, Nat.reduceEqDiff, Nat.reduceAdd, f1, f2, f4, str]; done) | (simp [mkAct, upd, f1, f2, f4, str, *]; done)
        · -- operation 6
          obtain ⟨f0, ⟨ao5, c5, f5, hsl5⟩, -⟩ := hp
          replace f0 : u 0 = (.agg (uvs S.list).toArray) := f0
          try simp only [f0, f5, str]
          go_wp2_with fail
          refine (hbk.out _ _ _ hsl5).mono ?_
          rintro e w1 ⟨rfl, hs'⟩
          go_wp2
          refine stq_v rfl hs' ?_
          first | (simp only [mkAct, List.foldl_cons, List.foldl_nil, List.setIfInBounds_toArray, List.set_cons_succ, List.set_cons_zero, upd, reduceIte, Nat.reduceEqDiff, Nat.reduceAdd, f0, f5, str]; done) | (simp [mkAct, upd, f0, f5, str, *]; done)
      · intro u wx hI hR
        obtain ⟨r0, r1, r2, r3, r4, r5, r6, -⟩ := hR
        replace r0 : u 0 = (.agg (uvs S.list).toArray) := r0
        replace r1 : u 1 = (.slice po M pc) := r1
        replace r2 : u 2 = (.int .i64 (J : Int)) := r2
        replace r3 : u 3 = (.int .i64 (J : Int)) := r3
        replace r4 : u 4 = (.int .i64 ((J : Int) + 64)) := r4
        obtain ⟨ao5, c5, r5, hsl5⟩ := r5
        replace r6 : u 6 = (.agg (uvs (Sha.block S c).list).toArray) := r6
        simp only [mkAct, List.foldl_cons, List.foldl_nil, List.setIfInBounds_toArray, List.set_cons_succ, List.set_cons_zero]
        try simp only [str, r0, r1, r2, r3, r4, r5, r6]
        have hbx := (hI.block _ hbl3).trans hb.out
        go_wp2_with (refine store_row rfl _ _ _ rfl B3 _ rfl rfl _ _ hbx hinfT.out (by rw [List.size_toArray, List.size_toArray, uvs_length, uvs_length, list_len, list_len]) (uvs_all _) ?_; intro w7 hb7 hk7)
        go_roundw
        case rel =>
          refine ⟨k + 1, by have h1 := hJ.out; have h2 := hM2.out; omega, ?_, by rw [hfs.out]; exact hb7, (hkp.out.trans (Keep.of_same (p := (· = B3)) hI) (fun _ _ h => h)).trans hk7 (fun _ _ h => h)⟩
          rw [show 64 * (k + 1) = J + 64 from by rw [hJ.out]; omega, ← g2.out]
        case measure =>
          have := hJ.out
          simp [intOf]
          omega
      -- A]]
    · obtain rfl : k = m := by omega
      have hsz := Sha.bytesOf_length (Sha.fold Sha.begun p k)
      obtain ⟨S, hS⟩ : ∃ S, S = Sha.fold Sha.begun p k := ⟨_, rfl⟩
      rw [← hS] at hb hsz
      have hsum2 := hsum.out
      rw [← hS] at hsum2
      have hd5 := (hkp.block _ (blk_lt hd4.out) (by omega)).trans hd4.out
      have hs05 := hs04.out.keep hkp (fun x hx hv => by have := hB2.out; have := hs04.out.size; have := blk_lt hd4.out; omega)
      have hinfD : (Try.prog.info? 28).map (·.size) = some (bv (Sha.bytesOf S)).toArray.size := by
        rw [List.size_toArray, bv_length, hsz]
        kernel_rfl
      rw [show 64 * k = M from hM2.out.symm]
      clear hS hkp hlt hM2 hM3
      replace hb := Lib.hid hb
      replace hd5 := Lib.hid hd5
      replace hs05 := Lib.hid hs05
      replace hsum2 := Lib.hid hsum2
      replace hinfD := Lib.hid hinfD
      clear hd4 hs04 hblk
      have hdz : bv (List.replicate 32 0) = bv (Sha.dPart S 0) := by rw [Sha.dPart, List.take_zero, List.nil_append]
      go_wp2_with (refine alloc_new rfl 28 rfl (bv (List.replicate 32 0)).toArray (by kernel_rfl) ?_; intro w6 hb6 hs6; rw [hdz] at hb6; have hb6l := blk_lt hb6; replace hb6 := Lib.hid hb6; replace hs6 := Lib.hid hs6)
      have hb36 := (hs6.out.block _ (blk_lt hb.out)).trans hb.out
      have hd6 := (hs6.out.block _ (blk_lt hd5.out)).trans hd5.out
      have hs06 := hs05.out.trans hs6.out
      have x3 := blk_lt hb.out
      have x2 := blk_lt hd5.out
      have xw := hs05.out.size
      clear hb hd5 hs05 hs6 hdz
      obtain ⟨B6, hB6⟩ : ∃ B, B = wr.heap.size := ⟨_, rfl⟩
      rw [← hB6] at hb6 x3 x2 xw hb6l
      rw [← hB6]
      clear hB6
      replace hb36 := Lib.hid hb36
      replace hd6 := Lib.hid hd6
      replace hs06 := Lib.hid hs06
      go_loopw [7, 8] (fun i _ wx => ∃ j : Nat, j ≤ 8 ∧ i = .int .i64 j ∧ wx.heap[B6]? = some (.cells (bv (Sha.dPart S (4 * j))).toArray 28 (0, 0)) ∧ Keep (· = B6) w6 wx) (fun i _ _ => 8 - (intOf i).toNat)
      case atStart => exact ⟨0, by omega, rfl, hb6.out, Keep.refl⟩
      case round =>
        obtain ⟨j, hj, rfl, hbd, hkd⟩ := hrel
        by_cases hlt : j < 8
        · replace hbd := Lib.hid hbd
          replace hkd := Lib.hid hkd
          go_wp2
          go_loopw [8] (fun i wx => ∃ q : Nat, q ≤ 4 ∧ i = .int .i64 q ∧ wx.heap[B6]? = some (.cells (bv (Sha.dPart S (4 * j + q))).toArray 28 (0, 0)) ∧ Keep (· = B6) w6 wx) (fun i _ => 4 - (intOf i).toNat)
          case atStart => exact ⟨0, by omega, rfl, hbd.out, hkd.out⟩
          case round =>
            clear hbd hkd
            obtain ⟨q, hq, rfl, hbd, hkd⟩ := hrel
            by_cases hlt2 : q < 4
            · have cx := (blk_cell ((hkd.block B3 (blk_lt hb36.out) (by omega)).trans hb36.out) j).trans (uvs_get (l := S.list) (by rw [list_len]; exact hlt))
              have hby := Sha.byteOf_at S j q hlt2
              have hset := Sha.dPart_set S (4 * j + q) (by omega)
              have cd := dig_cell hbd (j := 4 * j + q) (by rw [Sha.dPart_length _ _ (by omega)]; omega)
              have fd := blk_frozen hbd (4 * j + q)
              obtain ⟨x, hx⟩ : ∃ x, x = (S.list.getD j 0) := ⟨_, rfl⟩
              rw [← hx] at cx hby
              have p0 : 0 ≤ (j : Int) := by omega
              have p1 : (j : Int) < 8 := by omega
              have p2 : 0 ≤ 4 * (j : Int) + (q : Int) := by omega
              have p3 : 4 * (j : Int) + (q : Int) < 32 := by omega
              have p4 : 0 ≤ 24 - 8 * (q : Int) := by omega
              have p5 : 24 - 8 * (q : Int) ≤ 24 := by omega
              have n0 : (4 * (j : Int) + (q : Int)).toNat = 4 * j + q := by omega
              clear hx
              replace hby := Lib.hid hby
              replace hset := Lib.hid hset
              replace hbd := Lib.hid hbd
              replace hkd := Lib.hid hkd
              go_wp2
              go_roundw
              case rel =>
                rw [hby.out]
                exact ⟨q + 1, by omega, by go_num, (blk_set hbd.out).trans (by rw [hset.out]; rfl), hkd.out.trans (Keep.setCell (p := (· = B6)) _ rfl) (fun _ _ h => h)⟩
              case measure => simp [intOf]; omega
            · obtain rfl : q = 4 := by omega
              go_wp2
              go_roundw
              case rel => exact ⟨j + 1, by omega, by go_num, hbd, hkd⟩
              case measure => simp [intOf]; omega
        · obtain rfl : j = 8 := by omega
          rw [show 4 * 8 = 32 from rfl, Sha.dPart_all] at hbd
          have hd7 := (hkd.block _ (blk_lt hd6.out) (by omega)).trans hd6.out
          have hs07 := hs06.out.keep hkd (fun x hx hv => by omega)
          have hBw := hB2.out
          clear hkd hlt
          replace hbd := Lib.hid hbd
          replace hd7 := Lib.hid hd7
          replace hs07 := Lib.hid hs07
          replace hBw := Lib.hid hBw
          go_wp2_with (first | (refine load_row rfl _ _ rfl B6 rfl _ _ _ _ hbd.out Try.underlying28 rfl hinfD.out ?_) | (refine store_row rfl _ _ _ rfl B2 _ rfl rfl _ _ hd7.out hinfD.out (by rw [List.size_toArray, List.size_toArray, bv_length, bv_length, hsz]; rfl) (by simpa using bv_cell) ?_; intro w9 hb9 hk9; replace hb9 := Lib.hid hb9; replace hk9 := Lib.hid hk9))
          rw [hsum2.out]
          refine bodyPost_ret (v := .agg (bv (Sha.bytesOf S)).toArray) (results_row (p := 2) (ty := 28) rfl _ _ B2 _ _ _ _ rfl hb9.out Try.underlying28 rfl hinfD.out) rfl ?_
          exact ⟨rfl, hs07.out.keep hk9.out (fun x hx hv => by have := hBw.out; omega)⟩
end Go.Proofs.Ytmacgmmjgdmleaa
