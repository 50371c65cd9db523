/-
  The digest's words of a block.
-/
import Derived.Test.YtmacgmmjgdmleaaSha1
import Derived.StillTailTactics
namespace Go.Proofs.Ytmacgmmjgdmleaa
open Go Go.RowKit
set_option linter.unusedSimpArgs false
set_option linter.unusedVariables false

theorem uvs_all (l : List UInt32) : (uvs l).toArray.all (·.oneCell') = true := by
  simp [uvs, Value.oneCell']
/-- Words that are known, zeros behind them. -/
def fill (l : List UInt32) (n : Nat) : List UInt32 := l ++ List.replicate (n - l.length) 0
theorem fill_length (l : List UInt32) (n : Nat) (h : l.length ≤ n) : (fill l n).length = n := by simp [fill]; omega
theorem fill_set (l : List UInt32) (n : Nat) (x : UInt32) (h : l.length < n) : (uvs (fill l n)).toArray.setIfInBounds l.length (uv x) = (uvs (fill (l ++ [x]) n)).toArray := by
  have e : List.replicate (n - l.length) (0 : UInt32) = 0 :: List.replicate (n - (l.length + 1)) 0 := by
    rw [← List.replicate_succ]
    congr 1
    omega
  simp [fill, uvs, e, List.set_append]
theorem fill_get (l : List UInt32) (n j : Nat) (h : j < l.length) (hn : l.length ≤ n) : (uvs (fill l n)).toArray[j]? = some (uv (l.getD j 0)) := by
  rw [uvs_get (by rw [fill_length l n hn]; omega)]
  have e : (fill l n).getD j 0 = l.getD j 0 := by
    unfold fill
    simp [List.getD, List.getElem?_append_left h]
  rw [e]
theorem bv_at {l : List UInt8} {j : Nat} (h : j < l.length) : (bv l).toArray[j]? = some (.int .u8 ((l.getD j 0).toNat : Int)) := by
  simp [bv, h, List.getD]
theorem first_succ (b : List UInt8) (k : Nat) : Sha.first b (k + 1) = Sha.first b k ++ [Sha.word b k] := by
  simp [Sha.first, List.range_succ]
theorem first_length (b : List UInt8) (k : Nat) : (Sha.first b k).length = k := by simp [Sha.first]

theorem wrap_u32_in (n : Nat) (h : n < 4294967296) : IntKind.u32.wrap (n : Int) = (n : Int) := by
  rw [IntKind.wrap_u32']
  omega
theorem word_val (x0 x1 x2 x3 : Nat) (h0 : x0 < 256) (h1 : x1 < 256) (h2 : x2 < 256) (h3 : x3 < 256) :
    bits BinOp.or .u32 (bits BinOp.or .u32 (bits BinOp.or .u32 (IntKind.u32.wrap (IntKind.u32.wrap (x0 : Int) * 16777216)) (IntKind.u32.wrap (IntKind.u32.wrap (x1 : Int) * 65536))) (IntKind.u32.wrap (IntKind.u32.wrap (x2 : Int) * 256))) (IntKind.u32.wrap (x3 : Int)) =
      ((UInt32.ofNat (x0 * 16777216 ||| x1 * 65536 ||| x2 * 256 ||| x3)).toNat : Int) := by
  have e0 : ((x0 : Int) * 16777216) = ((x0 * 16777216 : Nat) : Int) := by omega
  have e1 : ((x1 : Int) * 65536) = ((x1 * 65536 : Nat) : Int) := by omega
  have e2 : ((x2 : Int) * 256) = ((x2 * 256 : Nat) : Int) := by omega
  rw [wrap_u32_in x0 (by omega), wrap_u32_in x1 (by omega), wrap_u32_in x2 (by omega), wrap_u32_in x3 (by omega), e0, e1, e2, wrap_u32_in _ (by omega), wrap_u32_in _ (by omega), wrap_u32_in _ (by omega)]
  have b1 : x0 * 16777216 ||| x1 * 65536 < 2 ^ 32 := Nat.or_lt_two_pow (by omega) (by omega)
  have b2 : x0 * 16777216 ||| x1 * 65536 ||| x2 * 256 < 2 ^ 32 := Nat.or_lt_two_pow b1 (by omega)
  have b3 : x0 * 16777216 ||| x1 * 65536 ||| x2 * 256 ||| x3 < 2 ^ 32 := Nat.or_lt_two_pow b2 (by omega)
  rw [u32_or_nat _ _ (by omega) (by omega), u32_or_nat _ _ b1 (by omega), u32_or_nat _ _ b2 (by omega), UInt32.toNat_ofNat', Nat.mod_eq_of_lt b3]
set_option maxRecDepth 100000 in
set_option maxHeartbeats 1600000 in
theorem words_any (l : List UInt8) (hl : l.length = 64) (w : World) :
    Calls Try.prog 198 #[.agg (bv l).toArray] w fun e w' => e = .returned (.agg (uvs (Sha.words l)).toArray) ∧ Same w w' := by
  have hc := fun j (h : j < 64) => bv_at (l := l) (j := j) (by rw [hl]; exact h)
  replace hc := Lib.hid hc
  go_enter Try.func198, Try.ntmps198
  go_wp2
  go_loopw [6] (fun i wr => ∃ k : Nat, k ≤ 16 ∧ i = .int .i64 k ∧ wr.heap[w.heap.size]? = some (.cells (bv l).toArray 252 (0, 0)) ∧ wr.heap[w.heap.size + 1]? = some (.cells (uvs (fill (Sha.first l k) 64)).toArray 244 (0, 0)) ∧ Same w wr) (fun i _ => 16 - (intOf i).toNat)
  case atStart => exact ⟨0, by omega, rfl, by rw [heap_alloc_old _ _ (by simp)]; exact heap_alloc_new _ _, by rw [show w.heap.size + 1 = (w.alloc (.cells (bv l).toArray 252)).heap.size from by simp, heap_alloc_new]; rfl, (Same.alloc Same.refl _).alloc _⟩
  case round =>
    obtain ⟨k, hk, rfl, hb1, hb2, hs⟩ := hrel
    by_cases hlt : k < 16
    · have c0 := blk_cell hb1 (4 * k)
      have c1 := blk_cell hb1 (4 * k + 1)
      have c2 := blk_cell hb1 (4 * k + 2)
      have c3 := blk_cell hb1 (4 * k + 3)
      rw [hc.out _ (by omega)] at c0 c1 c2 c3
      have z0 := (l.getD (4 * k) 0).toNat_lt
      have z1 := (l.getD (4 * k + 1) 0).toNat_lt
      have z2 := (l.getD (4 * k + 2) 0).toNat_lt
      have z3 := (l.getD (4 * k + 3) 0).toNat_lt
      obtain ⟨x0, e0⟩ : ∃ x, x = (l.getD (4 * k) 0).toNat := ⟨_, rfl⟩
      obtain ⟨x1, e1⟩ : ∃ x, x = (l.getD (4 * k + 1) 0).toNat := ⟨_, rfl⟩
      obtain ⟨x2, e2⟩ : ∃ x, x = (l.getD (4 * k + 2) 0).toNat := ⟨_, rfl⟩
      obtain ⟨x3, e3⟩ : ∃ x, x = (l.getD (4 * k + 3) 0).toNat := ⟨_, rfl⟩
      rw [← e0] at c0 z0
      rw [← e1] at c1 z1
      rw [← e2] at c2 z2
      rw [← e3] at c3 z3
      have hw : Sha.word l k = UInt32.ofNat (x0 * 16777216 ||| x1 * 65536 ||| x2 * 256 ||| x3) := by rw [Sha.word, e0, e1, e2, e3]
      have d2 := blk_cell hb2 k
      have f2 := blk_frozen hb2 k
      replace hb1 := Lib.hid hb1
      replace hb2 := Lib.hid hb2
      have hv := word_val x0 x1 x2 x3 z0 z1 z2 z3
      rw [← hw] at hv
      have p4 : 0 ≤ (k : Int) := by omega
      have q4 : (k : Int) < 64 := by omega
      clear hw
      rw [uvs_get (by rw [fill_length _ _ (by rw [first_length]; omega)]; omega)] at d2
      clear e0 e1 e2 e3
      have w0 : IntKind.i64.wrap (4 * (k : Int)) = 4 * (k : Int) := IntWalk.i64_in _ ⟨by omega, by omega⟩
      have w1 : IntKind.i64.wrap (4 * (k : Int) + 1) = 4 * (k : Int) + 1 := IntWalk.i64_in _ ⟨by omega, by omega⟩
      have w2 : IntKind.i64.wrap (4 * (k : Int) + 2) = 4 * (k : Int) + 2 := IntWalk.i64_in _ ⟨by omega, by omega⟩
      have w3 : IntKind.i64.wrap (4 * (k : Int) + 3) = 4 * (k : Int) + 3 := IntWalk.i64_in _ ⟨by omega, by omega⟩
      have p0 : 0 ≤ 4 * (k : Int) := by omega
      have q0 : 4 * (k : Int) < 64 := by omega
      have p1 : 0 ≤ 4 * (k : Int) + 1 := by omega
      have q1 : 4 * (k : Int) + 1 < 64 := by omega
      have p2 : 0 ≤ 4 * (k : Int) + 2 := by omega
      have q2 : 4 * (k : Int) + 2 < 64 := by omega
      have p3 : 0 ≤ 4 * (k : Int) + 3 := by omega
      have q3 : 4 * (k : Int) + 3 < 64 := by omega
      have n0 : (4 * (k : Int)).toNat = 4 * k := by omega
      have n1 : (4 * (k : Int) + 1).toNat = 4 * k + 1 := by omega
      have n2 : (4 * (k : Int) + 2).toNat = 4 * k + 2 := by omega
      have n3 : (4 * (k : Int) + 3).toNat = 4 * k + 3 := by omega
      go_wp2
      go_still_tail 31, (by kernel_rfl)
      change wpList _ _ _ _ _ wr.drew
      go_wp2
      go_roundw
      case rel =>
        have hk2 : Keep (· = w.heap.size + 1) wr (wr.setCell ⟨w.heap.size + 1, k, none⟩ (uv (Sha.word l k))).drew :=
          (Keep.setCell (p := (· = w.heap.size + 1)) _ rfl).trans (Keep.drew (p := (· = w.heap.size + 1))) (fun _ _ h => h)
        refine ⟨k + 1, by omega, by go_num, ?_, ?_, hs.keep hk2 (fun x hx hv => by omega)⟩
        · exact (hk2.block _ (by have := blk_lt hb1.out; omega) (by omega)).trans hb1.out
        · refine (blk_set hb2.out).trans ?_
          rw [first_succ, ← fill_set _ _ _ (by rw [first_length]; omega), first_length]
      case measure => simp [intOf]; omega
    · obtain rfl : k = 16 := by omega
      have hw16 : Sha.first l 16 = Sha.upto l (16 - 16) := by rw [Nat.sub_self, Sha.upto_zero]
      rw [hw16] at hb2
      have hmix := Lib.hid mix_any
      clear hw16 hlt hk
      go_wp2
      go_loopw [5] (fun i wr => ∃ t : Nat, 16 ≤ t ∧ t ≤ 64 ∧ i = .int .i64 t ∧ wr.heap[w.heap.size + 1]? = some (.cells (uvs (fill (Sha.upto l (t - 16)) 64)).toArray 244 (0, 0)) ∧ Same w wr) (fun i _ => 64 - (intOf i).toNat)
      case atStart => exact ⟨16, by omega, by omega, rfl, hb2, hs⟩
      case round =>
        clear hb2 hb1 hs
        obtain ⟨t, ht1, ht2, rfl, hb2, hs⟩ := hrel
        by_cases hlt : t < 64
        · have hul : (Sha.upto l (t - 16)).length = t := by rw [Sha.upto_length]; omega
          have hg := fun j (h : j < t) => (blk_cell hb2 j).trans (fill_get (Sha.upto l (t - 16)) 64 j (by rw [hul]; exact h) (by rw [hul]; omega))
          have g16 := hg (t - 16) (by omega)
          have g15 := hg (t - 15) (by omega)
          have g7 := hg (t - 7) (by omega)
          have g2 := hg (t - 2) (by omega)
          have d2 := blk_cell hb2 t
          have f2 := blk_frozen hb2 t
          rw [uvs_get (by rw [fill_length _ _ (by rw [hul]; omega)]; omega)] at d2
          have hmore : Sha.more (Sha.upto l (t - 16)) t = (Sha.upto l (t - 16)).getD (t - 16) 0 + Sha.mix ((Sha.upto l (t - 16)).getD (t - 15) 0) 7 18 3 + (Sha.upto l (t - 16)).getD (t - 7) 0 + Sha.mix ((Sha.upto l (t - 16)).getD (t - 2) 0) 17 19 10 := rfl
          obtain ⟨x16, e16⟩ : ∃ x, x = (Sha.upto l (t - 16)).getD (t - 16) 0 := ⟨_, rfl⟩
          obtain ⟨x15, e15⟩ : ∃ x, x = (Sha.upto l (t - 16)).getD (t - 15) 0 := ⟨_, rfl⟩
          obtain ⟨x7, e7⟩ : ∃ x, x = (Sha.upto l (t - 16)).getD (t - 7) 0 := ⟨_, rfl⟩
          obtain ⟨x2, e2⟩ : ∃ x, x = (Sha.upto l (t - 16)).getD (t - 2) 0 := ⟨_, rfl⟩
          rw [← e16, ← e15, ← e7, ← e2] at hmore
          rw [← e16] at g16
          rw [← e15] at g15
          rw [← e7] at g7
          rw [← e2] at g2
          clear e16 e15 e7 e2 hg
          replace hb2 := Lib.hid hb2
          replace hmore := Lib.hid hmore
          replace hul := Lib.hid hul
          go_wp2
          refine wp_region_last (by kernel_rfl) [(45, 0), (46, 1), (47, 2), (48, 3), (49, 4), (50, 5), (51, 6), (52, 7), (53, 8), (54, 9), (55, 10), (56, 11), (57, 12), (58, 13), (59, 14), (60, 15), (61, 16), (62, 17), (63, 18), (64, 19), (65, 20), (66, 21), (67, 22), (68, 23), (69, 24)] Drew (Drew wr) [isV (.int .i64 (t : Int)), isV (.int .i64 (t : Int)), isV (.int .i64 ((t : Int) - 16)), isV (.pointer (some ⟨w.heap.size + 1, t - 16, none⟩)), isV (uv x16), isV (.func (Fn.func 201) #[] #[]), isV (.int .i64 (t : Int)), isV (.int .i64 ((t : Int) - 15)), isV (.pointer (some ⟨w.heap.size + 1, t - 15, none⟩)), isV (uv x15), isV (uv (Sha.mix x15 7 18 3)), isV (.int .u32 (((x16.toNat : Int) + ((Sha.mix x15 7 18 3).toNat : Int)) % 4294967296)), isV (.int .i64 (t : Int)), isV (.int .i64 ((t : Int) - 7)), isV (.pointer (some ⟨w.heap.size + 1, t - 7, none⟩)), isV (uv x7), isV (.int .u32 (((x16.toNat : Int) + ((Sha.mix x15 7 18 3).toNat : Int) + (x7.toNat : Int)) % 4294967296)), isV (.func (Fn.func 201) #[] #[]), isV (.int .i64 (t : Int)), isV (.int .i64 ((t : Int) - 2)), isV (.pointer (some ⟨w.heap.size + 1, t - 2, none⟩)), isV (uv x2), isV (uv (Sha.mix x2 17 19 10)), isV (.int .u32 (((x16.toNat : Int) + ((Sha.mix x15 7 18 3).toNat : Int) + (x7.toNat : Int) + ((Sha.mix x2 17 19 10).toNat : Int)) % 4294967296)), isV (.pointer (some ⟨w.heap.size + 1, t, none⟩))] Drew.drew (fun _ _ h k => h.trans k) (by simp [isV_stable, isB_stable, isAny_stable]) (by decide) (l := [_, _, _, _, _, _, _, _, _, _, _, _, _, _, _, _, _, _, _, _, _, _, _, _, _]) rfl (by decide) (by decide) ?_ ?_
          · refine ⟨?_, ?_, ?_, ?_, ?_, ?_, ?_, ?_, ?_, ?_, ?_, ?_, ?_, ?_, ?_, ?_, ?_, ?_, ?_, ?_, ?_, ?_, ?_, ?_, ?_, trivial⟩
            all_goals (intro u wx hI hp; simp only [mkAct, List.foldl_cons, List.foldl_nil, List.setIfInBounds_toArray, List.set_cons_succ, List.set_cons_zero])
            · -- operation 0
              go_wp2
              refine stq_v rfl Drew.refl ?_
              first | (simp only [mkAct, List.foldl_cons, List.foldl_nil, List.setIfInBounds_toArray, List.set_cons_succ, List.set_cons_zero, upd, reduceIte, Nat.reduceEqDiff, Nat.reduceAdd, str]; done) | (simp [mkAct, upd, str, *]; done)
            · -- operation 1
              go_wp2
              refine stq_v rfl Drew.refl ?_
              first | (simp only [mkAct, List.foldl_cons, List.foldl_nil, List.setIfInBounds_toArray, List.set_cons_succ, List.set_cons_zero, upd, reduceIte, Nat.reduceEqDiff, Nat.reduceAdd, str]; done) | (simp [mkAct, upd, str, *]; done)
            · -- operation 2
              obtain ⟨f1, -⟩ := hp
              replace f1 : u 1 = (.int .i64 (t : Int)) := f1
              try simp only [f1, str]
              go_wp2
              refine stq_v rfl Drew.refl ?_
              first | (simp only [mkAct, List.foldl_cons, List.foldl_nil, List.setIfInBounds_toArray, List.set_cons_succ, List.set_cons_zero, upd, reduceIte, Nat.reduceEqDiff, Nat.reduceAdd, f1, str]; done) | (simp [mkAct, upd, f1, str, *]; done)
            · -- operation 3
              obtain ⟨f2, -⟩ := hp
              replace f2 : u 2 = (.int .i64 ((t : Int) - 16)) := f2
              try simp only [f2, str]
              go_wp2
              refine stq_v rfl Drew.refl ?_
              first | (simp only [mkAct, List.foldl_cons, List.foldl_nil, List.setIfInBounds_toArray, List.set_cons_succ, List.set_cons_zero, upd, reduceIte, Nat.reduceEqDiff, Nat.reduceAdd, f2, str]; done) | (simp [mkAct, upd, f2, str, *]; done)
            · -- operation 4
              obtain ⟨f3, -⟩ := hp
              replace f3 : u 3 = (.pointer (some ⟨w.heap.size + 1, t - 16, none⟩)) := f3
              try simp only [f3, str]
              obtain ⟨q, rfl⟩ := hI
              go_wp2
              refine stq_v rfl Drew.refl ?_
              first | (simp only [mkAct, List.foldl_cons, List.foldl_nil, List.setIfInBounds_toArray, List.set_cons_succ, List.set_cons_zero, upd, reduceIte, Nat.reduceEqDiff, Nat.reduceAdd, f3, str]; done) | (simp [mkAct, upd, f3, str, *]; done)
            · -- operation 5
              go_wp2
              refine stq_v rfl Drew.refl ?_
              first | (simp only [mkAct, List.foldl_cons, List.foldl_nil, List.setIfInBounds_toArray, List.set_cons_succ, List.set_cons_zero, upd, reduceIte, Nat.reduceEqDiff, Nat.reduceAdd, str]; done) | (simp [mkAct, upd, str, *]; done)
            · -- operation 6
              go_wp2
              refine stq_v rfl Drew.refl ?_
              first | (simp only [mkAct, List.foldl_cons, List.foldl_nil, List.setIfInBounds_toArray, List.set_cons_succ, List.set_cons_zero, upd, reduceIte, Nat.reduceEqDiff, Nat.reduceAdd, str]; done) | (simp [mkAct, upd, str, *]; done)
            · -- operation 7
              obtain ⟨f6, -⟩ := hp
              replace f6 : u 6 = (.int .i64 (t : Int)) := f6
              try simp only [f6, str]
              go_wp2
              refine stq_v rfl Drew.refl ?_
              first | (simp only [mkAct, List.foldl_cons, List.foldl_nil, List.setIfInBounds_toArray, List.set_cons_succ, List.set_cons_zero, upd, reduceIte, Nat.reduceEqDiff, Nat.reduceAdd, f6, str]; done) | (simp [mkAct, upd, f6, str, *]; done)
            · -- operation 8
              obtain ⟨f7, -⟩ := hp
              replace f7 : u 7 = (.int .i64 ((t : Int) - 15)) := f7
              try simp only [f7, str]
              go_wp2
              refine stq_v rfl Drew.refl ?_
              first | (simp only [mkAct, List.foldl_cons, List.foldl_nil, List.setIfInBounds_toArray, List.set_cons_succ, List.set_cons_zero, upd, reduceIte, Nat.reduceEqDiff, Nat.reduceAdd, f7, str]; done) | (simp [mkAct, upd, f7, str, *]; done)
            · -- operation 9
              obtain ⟨f8, -⟩ := hp
              replace f8 : u 8 = (.pointer (some ⟨w.heap.size + 1, t - 15, none⟩)) := f8
              try simp only [f8, str]
              obtain ⟨q, rfl⟩ := hI
              go_wp2
              refine stq_v rfl Drew.refl ?_
              first | (simp only [mkAct, List.foldl_cons, List.foldl_nil, List.setIfInBounds_toArray, List.set_cons_succ, List.set_cons_zero, upd, reduceIte, Nat.reduceEqDiff, Nat.reduceAdd, f8, str]; done) | (simp [mkAct, upd, f8, str, *]; done)
            · -- operation 10
              obtain ⟨f5, f9, -⟩ := hp
              replace f5 : u 5 = (.func (Fn.func 201) #[] #[]) := f5
              replace f9 : u 9 = (uv x15) := f9
              try simp only [f5, f9, str]
              go_wp2_with fail
              refine (hmix.out x15 7 18 3 _ (by omega) (by omega) (by omega)).mono ?_
              rintro e w1 ⟨rfl, hd⟩
              go_wp2
              refine stq_v rfl hd ?_
              first | (simp only [mkAct, List.foldl_cons, List.foldl_nil, List.setIfInBounds_toArray, List.set_cons_succ, List.set_cons_zero, upd, reduceIte, Nat.reduceEqDiff, Nat.reduceAdd, f5, f9, str]; done) | (simp [mkAct, upd, f5, f9, str, *]; done)
            · -- operation 11
              obtain ⟨f4, f10, -⟩ := hp
              replace f4 : u 4 = (uv x16) := f4
              replace f10 : u 10 = (uv (Sha.mix x15 7 18 3)) := f10
              try simp only [f4, f10, str]
              go_wp2
              refine stq_v rfl Drew.refl ?_
              first | (simp only [mkAct, List.foldl_cons, List.foldl_nil, List.setIfInBounds_toArray, List.set_cons_succ, List.set_cons_zero, upd, reduceIte, Nat.reduceEqDiff, Nat.reduceAdd, f4, f10, str]; done) | (simp [mkAct, upd, f4, f10, str, *]; done)
            · -- operation 12
              go_wp2
              refine stq_v rfl Drew.refl ?_
              first | (simp only [mkAct, List.foldl_cons, List.foldl_nil, List.setIfInBounds_toArray, List.set_cons_succ, List.set_cons_zero, upd, reduceIte, Nat.reduceEqDiff, Nat.reduceAdd, str]; done) | (simp [mkAct, upd, str, *]; done)
            · -- operation 13
              obtain ⟨f12, -⟩ := hp
              replace f12 : u 12 = (.int .i64 (t : Int)) := f12
              try simp only [f12, str]
              go_wp2
              refine stq_v rfl Drew.refl ?_
              first | (simp only [mkAct, List.foldl_cons, List.foldl_nil, List.setIfInBounds_toArray, List.set_cons_succ, List.set_cons_zero, upd, reduceIte, Nat.reduceEqDiff, Nat.reduceAdd, f12, str]; done) | (simp [mkAct, upd, f12, str, *]; done)
            · -- operation 14
              obtain ⟨f13, -⟩ := hp
              replace f13 : u 13 = (.int .i64 ((t : Int) - 7)) := f13
              try simp only [f13, str]
              go_wp2
              refine stq_v rfl Drew.refl ?_
              first | (simp only [mkAct, List.foldl_cons, List.foldl_nil, List.setIfInBounds_toArray, List.set_cons_succ, List.set_cons_zero, upd, reduceIte, Nat.reduceEqDiff, Nat.reduceAdd, f13, str]; done) | (simp [mkAct, upd, f13, str, *]; done)
            · -- operation 15
              obtain ⟨f14, -⟩ := hp
              replace f14 : u 14 = (.pointer (some ⟨w.heap.size + 1, t - 7, none⟩)) := f14
              try simp only [f14, str]
              obtain ⟨q, rfl⟩ := hI
              go_wp2
              refine stq_v rfl Drew.refl ?_
              first | (simp only [mkAct, List.foldl_cons, List.foldl_nil, List.setIfInBounds_toArray, List.set_cons_succ, List.set_cons_zero, upd, reduceIte, Nat.reduceEqDiff, Nat.reduceAdd, f14, str]; done) | (simp [mkAct, upd, f14, str, *]; done)
            · -- operation 16
              obtain ⟨f11, f15, -⟩ := hp
              replace f11 : u 11 = (.int .u32 (((x16.toNat : Int) + ((Sha.mix x15 7 18 3).toNat : Int)) % 4294967296)) := f11
              replace f15 : u 15 = (uv x7) := f15
              try simp only [f11, f15, str]
              go_wp2
              refine stq_v rfl Drew.refl ?_
              first | (simp only [mkAct, List.foldl_cons, List.foldl_nil, List.setIfInBounds_toArray, List.set_cons_succ, List.set_cons_zero, upd, reduceIte, Nat.reduceEqDiff, Nat.reduceAdd, f11, f15, str]; done) | (simp [mkAct, upd, f11, f15, str, *]; done)
            · -- operation 17
              go_wp2
              refine stq_v rfl Drew.refl ?_
              first | (simp only [mkAct, List.foldl_cons, List.foldl_nil, List.setIfInBounds_toArray, List.set_cons_succ, List.set_cons_zero, upd, reduceIte, Nat.reduceEqDiff, Nat.reduceAdd, str]; done) | (simp [mkAct, upd, str, *]; done)
            · -- operation 18
              go_wp2
              refine stq_v rfl Drew.refl ?_
              first | (simp only [mkAct, List.foldl_cons, List.foldl_nil, List.setIfInBounds_toArray, List.set_cons_succ, List.set_cons_zero, upd, reduceIte, Nat.reduceEqDiff, Nat.reduceAdd, str]; done) | (simp [mkAct, upd, str, *]; done)
            · -- operation 19
              obtain ⟨f18, -⟩ := hp
              replace f18 : u 18 = (.int .i64 (t : Int)) := f18
              try simp only [f18, str]
              go_wp2
              refine stq_v rfl Drew.refl ?_
              first | (simp only [mkAct, List.foldl_cons, List.foldl_nil, List.setIfInBounds_toArray, List.set_cons_succ, List.set_cons_zero, upd, reduceIte, Nat.reduceEqDiff, Nat.reduceAdd, f18, str]; done) | (simp [mkAct, upd, f18, str, *]; done)
            · -- operation 20
              obtain ⟨f19, -⟩ := hp
              replace f19 : u 19 = (.int .i64 ((t : Int) - 2)) := f19
              try simp only [f19, str]
              go_wp2
              refine stq_v rfl Drew.refl ?_
              first | (simp only [mkAct, List.foldl_cons, List.foldl_nil, List.setIfInBounds_toArray, List.set_cons_succ, List.set_cons_zero, upd, reduceIte, Nat.reduceEqDiff, Nat.reduceAdd, f19, str]; done) | (simp [mkAct, upd, f19, str, *]; done)
            · -- operation 21
              obtain ⟨f20, -⟩ := hp
              replace f20 : u 20 = (.pointer (some ⟨w.heap.size + 1, t - 2, none⟩)) := f20
              try simp only [f20, str]
              obtain ⟨q, rfl⟩ := hI
              go_wp2
              refine stq_v rfl Drew.refl ?_
              first | (simp only [mkAct, List.foldl_cons, List.foldl_nil, List.setIfInBounds_toArray, List.set_cons_succ, List.set_cons_zero, upd, reduceIte, Nat.reduceEqDiff, Nat.reduceAdd, f20, str]; done) | (simp [mkAct, upd, f20, str, *]; done)
            · -- operation 22
              obtain ⟨f17, f21, -, -⟩ := hp
              replace f17 : u 17 = (.func (Fn.func 201) #[] #[]) := f17
              replace f21 : u 21 = (uv x2) := f21
              try simp only [f17, f21, str]
              go_wp2_with fail
              refine (hmix.out x2 17 19 10 _ (by omega) (by omega) (by omega)).mono ?_
              rintro e w1 ⟨rfl, hd⟩
              go_wp2
              refine stq_v rfl hd ?_
              first | (simp only [mkAct, List.foldl_cons, List.foldl_nil, List.setIfInBounds_toArray, List.set_cons_succ, List.set_cons_zero, upd, reduceIte, Nat.reduceEqDiff, Nat.reduceAdd, f17, f21, str]; done) | (simp [mkAct, upd, f17, f21, str, *]; done)
            · -- operation 23
              obtain ⟨f16, f22, -⟩ := hp
              replace f16 : u 16 = (.int .u32 (((x16.toNat : Int) + ((Sha.mix x15 7 18 3).toNat : Int) + (x7.toNat : Int)) % 4294967296)) := f16
              replace f22 : u 22 = (uv (Sha.mix x2 17 19 10)) := f22
              try simp only [f16, f22, str]
              go_wp2
              refine stq_v rfl Drew.refl ?_
              first | (simp only [mkAct, List.foldl_cons, List.foldl_nil, List.setIfInBounds_toArray, List.set_cons_succ, List.set_cons_zero, upd, reduceIte, Nat.reduceEqDiff, Nat.reduceAdd, f16, f22, str]; done) | (simp [mkAct, upd, f16, f22, str, *]; done)
            · -- operation 24
              obtain ⟨f0, -, -, -, -, -, -, -, -, -, -, -, -, -, -, -, -, -, -, -, -, -, -, -, -, -⟩ := hp
              replace f0 : u 0 = (.int .i64 (t : Int)) := f0
              try simp only [f0, str]
              go_wp2
              refine stq_v rfl Drew.refl ?_
              first | (simp only [mkAct, List.foldl_cons, List.foldl_nil, List.setIfInBounds_toArray, List.set_cons_succ, List.set_cons_zero, upd, reduceIte, Nat.reduceEqDiff, Nat.reduceAdd, f0, str]; done) | (simp [mkAct, upd, f0, str, *]; done)
          · intro u wx hI hR
            obtain ⟨r0, r1, r2, r3, r4, r5, r6, r7, r8, r9, r10, r11, r12, r13, r14, r15, r16, r17, r18, r19, r20, r21, r22, r23, r24, -⟩ := hR
            replace r0 : u 0 = (.int .i64 (t : Int)) := r0
            replace r1 : u 1 = (.int .i64 (t : Int)) := r1
            replace r2 : u 2 = (.int .i64 ((t : Int) - 16)) := r2
            replace r3 : u 3 = (.pointer (some ⟨w.heap.size + 1, t - 16, none⟩)) := r3
            replace r4 : u 4 = (uv x16) := r4
            replace r5 : u 5 = (.func (Fn.func 201) #[] #[]) := r5
            replace r6 : u 6 = (.int .i64 (t : Int)) := r6
            replace r7 : u 7 = (.int .i64 ((t : Int) - 15)) := r7
            replace r8 : u 8 = (.pointer (some ⟨w.heap.size + 1, t - 15, none⟩)) := r8
            replace r9 : u 9 = (uv x15) := r9
            replace r10 : u 10 = (uv (Sha.mix x15 7 18 3)) := r10
            replace r11 : u 11 = (.int .u32 (((x16.toNat : Int) + ((Sha.mix x15 7 18 3).toNat : Int)) % 4294967296)) := r11
            replace r12 : u 12 = (.int .i64 (t : Int)) := r12
            replace r13 : u 13 = (.int .i64 ((t : Int) - 7)) := r13
            replace r14 : u 14 = (.pointer (some ⟨w.heap.size + 1, t - 7, none⟩)) := r14
            replace r15 : u 15 = (uv x7) := r15
            replace r16 : u 16 = (.int .u32 (((x16.toNat : Int) + ((Sha.mix x15 7 18 3).toNat : Int) + (x7.toNat : Int)) % 4294967296)) := r16
            replace r17 : u 17 = (.func (Fn.func 201) #[] #[]) := r17
            replace r18 : u 18 = (.int .i64 (t : Int)) := r18
            replace r19 : u 19 = (.int .i64 ((t : Int) - 2)) := r19
            replace r20 : u 20 = (.pointer (some ⟨w.heap.size + 1, t - 2, none⟩)) := r20
            replace r21 : u 21 = (uv x2) := r21
            replace r22 : u 22 = (uv (Sha.mix x2 17 19 10)) := r22
            replace r23 : u 23 = (.int .u32 (((x16.toNat : Int) + ((Sha.mix x15 7 18 3).toNat : Int) + (x7.toNat : Int) + ((Sha.mix x2 17 19 10).toNat : Int)) % 4294967296)) := r23
            replace r24 : u 24 = (.pointer (some ⟨w.heap.size + 1, t, none⟩)) := r24
            simp only [mkAct, List.foldl_cons, List.foldl_nil, List.setIfInBounds_toArray, List.set_cons_succ, List.set_cons_zero]
            try simp only [str, r0, r1, r2, r3, r4, r5, r6, r7, r8, r9, r10, r11, r12, r13, r14, r15, r16, r17, r18, r19, r20, r21, r22, r23, r24]
            obtain ⟨q, rfl⟩ := hI
            have hv : ((x16.toNat : Int) + ((Sha.mix x15 7 18 3).toNat : Int) + (x7.toNat : Int) + ((Sha.mix x2 17 19 10).toNat : Int)) % 4294967296 = ((Sha.more (Sha.upto l (t - 16)) t).toNat : Int) := by
              rw [hmore.out, UInt32.toNat_add, UInt32.toNat_add, UInt32.toNat_add]
              omega
            go_wp2
            go_roundw
            case rel =>
              have hk2 : Keep (· = w.heap.size + 1) wr ((wr.setCell ⟨w.heap.size + 1, t, none⟩ (uv (Sha.more (Sha.upto l (t - 16)) t))).drewN q) :=
                (Keep.setCell (p := (· = w.heap.size + 1)) _ rfl).trans (Keep.of_same (p := (· = w.heap.size + 1)) (Same.refl.drewN q)) (fun _ _ h => h)
              refine ⟨t + 1, by omega, by omega, by go_num, ?_, ?_⟩
              · have e1 : (t + 1 - 16) = (t - 16) + 1 := by omega
                have e2 : 16 + (t - 16) = t := by omega
                rw [e1, Sha.upto_succ, e2, ← fill_set _ _ _ (by rw [hul.out]; omega), hul.out]
                exact blk_set hb2.out
              · exact hs.keep hk2 (fun x hx hv => by omega)
            case measure => simp [intOf]; omega
        · obtain rfl : t = 64 := by omega
          have hfull : fill (Sha.upto l (64 - 16)) 64 = Sha.words l := by
            unfold fill
            rw [Sha.words_eq, Sha.upto_length]
            simp
          rw [hfull] at hb2
          have hi : (Try.prog.info? 244).map (·.size) = some (uvs (Sha.words l)).toArray.size := by
            rw [List.size_toArray, uvs_length, Sha.words_length]
            kernel_rfl
          replace hi := Lib.hid hi
          replace hb2 := Lib.hid hb2
          go_wp2_with (first | (refine load_row rfl _ _ rfl (w.heap.size + 1) rfl _ _ _ _ hb2.out Try.underlying244 rfl hi.out ?_) | (refine store_row rfl _ _ _ rfl (w.heap.size + 1) _ rfl rfl _ _ hb2.out hi.out rfl (uvs_all _) ?_; intro w5 hb5 hk5; replace hb5 := Lib.hid hb5))
          refine bodyPost_ret (v := .agg (uvs (Sha.words l)).toArray) (results_row (p := 2) (ty := 244) rfl _ _ (w.heap.size + 1) _ _ _ _ rfl hb5.out Try.underlying244 rfl hi.out) rfl ?_
          exact ⟨rfl, hs.keep hk5 (fun x hx hv => by omega)⟩
end Go.Proofs.Ytmacgmmjgdmleaa
