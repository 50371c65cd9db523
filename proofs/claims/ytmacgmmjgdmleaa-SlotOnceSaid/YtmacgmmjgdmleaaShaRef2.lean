/-
  The document's block (raddleref03.block).
-/
import Derived.Test.YtmacgmmjgdmleaaShaRef1
import Derived.StillTailTactics
import Derived.Deep.DeepCutAuto
namespace Go.Proofs.Ytmacgmmjgdmleaa
open Go Go.RowKit
set_option linter.unusedSimpArgs false
set_option linter.unusedVariables false

theorem uvs_info (s : Sha.S8) : (Try.prog.info? 214).map (·.size) = some (uvs s.list).toArray.size := by
  rw [List.size_toArray, uvs_length, list_len]
  kernel_rfl
set_option maxRecDepth 100000 in
set_option maxHeartbeats 6000000 in
theorem rblock_any (s : Sha.S8) (l : List UInt8) (hl : l.length = 64) (ao : Option Addr) (n c : Nat) (w : World) (hsl : Sl w 1 ao n c (bv l)) :
    Calls Try.prog 149 #[.agg (uvs s.list).toArray, .slice ao n c] w fun e w' => e = .returned (.agg (uvs (Sha.block s l).list).toArray) ∧ Same w w' := by
  have hn : n = 64 := by have := hsl.len; rw [bv_length] at this; omega
  subst hn
  obtain ⟨bk, off, rfl, hbk, hcell⟩ := hsl.at (by intro h; rw [bv, List.map_eq_nil_iff] at h; rw [h] at hl; simp at hl)
  have hcap := hsl.cap
  have hmost := hsl.most
  unfold maxLen at hmost
  have hc : ∀ j, j < 64 → w.cell? ⟨bk, off + j, none⟩ = some (.int .u8 ((l.getD j 0).toNat : Int)) := fun j hj => hcell j _ (by rw [bv_get (by omega)]; simp [List.getD, hl, hj])
  clear hcell hsl
  replace hc := Lib.hid hc
  have hinf := Lib.hid (uvs_info s)
  go_enter Try.func149, Try.ntmps149
  go_wp2_with (first | (refine box_row rfl _ _ rfl _ rfl hinf.out ?_; intro w0 hbx hs0; have hb0 := blk_lt hbx; replace hbx := Lib.hid hbx; replace hs0 := Lib.hid hs0) | (refine alloc_new rfl 214 rfl (uvs (List.replicate 8 0)).toArray (by kernel_rfl) ?_; intro w1 hbd hs1; have hb1 := blk_lt hbd; replace hbd := Lib.hid hbd; replace hs1 := Lib.hid hs1) | (refine alloc_new rfl 244 rfl (uvs (fill (Sha.first l 0) 64)).toArray (by kernel_rfl) ?_; intro w2 hbw hs2; have hb2 := blk_lt hbw; replace hbw := Lib.hid hbw; replace hs2 := Lib.hid hs2))
  have hs02 : Same w w2 := (hs0.out.trans hs1.out).trans hs2.out
  have hbx2 := ((hs1.out.trans hs2.out).block _ hb0).trans hbx.out
  have hbd2 := (hs2.out.block _ hb1).trans hbd.out
  replace hs02 := Lib.hid hs02
  replace hbx2 := Lib.hid hbx2
  replace hbd2 := Lib.hid hbd2
  clear hbx hbd hs0 hs1 hs2
  obtain ⟨B2, hB2⟩ : ∃ B, B = w.heap.size := ⟨_, rfl⟩
  obtain ⟨B4, hB4⟩ : ∃ B, B = w0.heap.size := ⟨_, rfl⟩
  obtain ⟨B5, hB5⟩ : ∃ B, B = w1.heap.size := ⟨_, rfl⟩
  rw [← hB2, ← hB4] at hb0
  rw [← hB4, ← hB5] at hb1
  rw [← hB5] at hb2 hbw
  rw [← hB4] at hbd2
  rw [← hB2] at hbx2 hbk
  rw [← hB2, ← hB4, ← hB5]
  clear hB4 hB5
  replace hB2 := Lib.hid hB2
  go_loopw [6] (fun i wr => ∃ k : Nat, k ≤ 16 ∧ i = .int .i64 k ∧ wr.heap[B5]? = some (.cells (uvs (fill (Sha.first l k) 64)).toArray 244 (0, 0)) ∧ Keep (· = B5) w2 wr) (fun i _ => 16 - (intOf i).toNat)
  case atStart => exact ⟨0, by omega, rfl, hbw.out, Keep.refl⟩
  case round =>
    obtain ⟨k, hk, rfl, hb2, hs⟩ := hrel
    by_cases hlt : k < 16
    · -- [[A
      have hcc := fun j (hj : j < 64) => hs.cell (hs02.out.cell (hc.out j hj)) (show ¬ bk = B5 by omega)
      have c0 := hcc (4 * k) (by omega)
      have c1 := hcc (4 * k + 1) (by omega)
      have c2 := hcc (4 * k + 2) (by omega)
      have c3 := hcc (4 * k + 3) (by omega)
      clear hcc
      have z0 := (l.getD (4 * k) 0).toNat_lt
      have z1 := (l.getD (4 * k + 1) 0).toNat_lt
      have z2 := (l.getD (4 * k + 2) 0).toNat_lt
      have z3 := (l.getD (4 * k + 3) 0).toNat_lt
      obtain ⟨x0, e0⟩ : ∃ x, x = (l.getD (4 * k) 0).toNat := ⟨_, rfl⟩
      obtain ⟨x1, e1⟩ : ∃ x, x = (l.getD (4 * k + 1) 0).toNat := ⟨_, rfl⟩
      obtain ⟨x2, e2⟩ : ∃ x, x = (l.getD (4 * k + 2) 0).toNat := ⟨_, rfl⟩
      obtain ⟨x3, e3⟩ : ∃ x, x = (l.getD (4 * k + 3) 0).toNat := ⟨_, rfl⟩
      rw [← e0] at c0 z0
      rw [← e1] at c1 z1
      rw [← e2] at c2 z2
      rw [← e3] at c3 z3
      have hw : Sha.word l k = UInt32.ofNat (x0 * 16777216 ||| x1 * 65536 ||| x2 * 256 ||| x3) := by rw [Sha.word, e0, e1, e2, e3]
      have d2 := blk_cell hb2 k
      have f2 := blk_frozen hb2 k
      replace hb2 := Lib.hid hb2
      have hv := word_val x0 x1 x2 x3 z0 z1 z2 z3
      rw [← hw] at hv
      have p4 : 0 ≤ (k : Int) := by omega
      have q4 : (k : Int) < 64 := by omega
      clear hw
      rw [uvs_get (by rw [fill_length _ _ (by rw [first_length]; omega)]; omega)] at d2
      clear e0 e1 e2 e3
      have w0 : IntKind.i64.wrap (4 * (k : Int)) = 4 * (k : Int) := IntWalk.i64_in _ ⟨by omega, by omega⟩
      have w1 : IntKind.i64.wrap (4 * (k : Int) + 1) = 4 * (k : Int) + 1 := IntWalk.i64_in _ ⟨by omega, by omega⟩
      have w2 : IntKind.i64.wrap (4 * (k : Int) + 2) = 4 * (k : Int) + 2 := IntWalk.i64_in _ ⟨by omega, by omega⟩
      have w3 : IntKind.i64.wrap (4 * (k : Int) + 3) = 4 * (k : Int) + 3 := IntWalk.i64_in _ ⟨by omega, by omega⟩
      have p0 : 0 ≤ 4 * (k : Int) := by omega
      have q0 : 4 * (k : Int) < 64 := by omega
      have p1 : 0 ≤ 4 * (k : Int) + 1 := by omega
      have q1 : 4 * (k : Int) + 1 < 64 := by omega
      have p2 : 0 ≤ 4 * (k : Int) + 2 := by omega
      have q2 : 4 * (k : Int) + 2 < 64 := by omega
      have p3 : 0 ≤ 4 * (k : Int) + 3 := by omega
      have q3 : 4 * (k : Int) + 3 < 64 := by omega
      have n0 : (4 * (k : Int)).toNat = 4 * k := by omega
      have n1 : (4 * (k : Int) + 1).toNat = 4 * k + 1 := by omega
      have n2 : (4 * (k : Int) + 2).toNat = 4 * k + 2 := by omega
      have n3 : (4 * (k : Int) + 3).toNat = 4 * k + 3 := by omega
      replace hs := Lib.hid hs
      go_wp2
      go_still_tail 34, (by kernel_rfl)
      change wpList _ _ _ _ _ wr.drew
      go_wp2
      go_roundw
      case rel =>
        have hk2 : Keep (· = B5) wr (wr.setCell ⟨B5, k, none⟩ (uv (Sha.word l k))).drew :=
          (Keep.setCell (p := (· = B5)) _ rfl).trans (Keep.drew (p := (· = B5))) (fun _ _ h => h)
        refine ⟨k + 1, by omega, by go_num, ?_, hs.out.trans hk2 (fun _ _ h => h)⟩
        refine (blk_set hb2.out).trans ?_
        rw [first_succ, ← fill_set _ _ _ (by rw [first_length]; omega), first_length]
      case measure => simp [intOf]; omega
      -- A]]
    · obtain rfl : k = 16 := by omega
      have hw16 : Sha.first l 16 = Sha.upto l (16 - 16) := by rw [Nat.sub_self, Sha.upto_zero]
      rw [hw16] at hb2
      have hror := Lib.hid ror_any
      clear hw16 hlt hk hbw
      replace hb2 := Lib.hid hb2
      replace hs := Lib.hid hs
      go_wp2
      go_loopw [7] (fun i wr => ∃ t : Nat, 16 ≤ t ∧ t ≤ 64 ∧ i = .int .i64 t ∧ wr.heap[B5]? = some (.cells (uvs (fill (Sha.upto l (t - 16)) 64)).toArray 244 (0, 0)) ∧ Keep (· = B5) w2 wr) (fun i _ => 64 - (intOf i).toNat)
      case atStart => exact ⟨16, by omega, by omega, rfl, hb2.out, hs.out⟩
      case round =>
        clear hb2 hs
        obtain ⟨t, ht1, ht2, rfl, hb2, hs⟩ := hrel
        by_cases hlt : t < 64
        · -- [[B
          have hul : (Sha.upto l (t - 16)).length = t := by rw [Sha.upto_length]; omega
          have hg := fun j (h : j < t) => (blk_cell hb2 j).trans (fill_get (Sha.upto l (t - 16)) 64 j (by rw [hul]; exact h) (by rw [hul]; omega))
          have g16 := hg (t - 16) (by omega)
          have g15 := hg (t - 15) (by omega)
          have g7 := hg (t - 7) (by omega)
          have g2 := hg (t - 2) (by omega)
          have d2 := blk_cell hb2 t
          have f2 := blk_frozen hb2 t
          rw [uvs_get (by rw [fill_length _ _ (by rw [hul]; omega)]; omega)] at d2
          have hmore : Sha.more (Sha.upto l (t - 16)) t = (Sha.upto l (t - 16)).getD (t - 16) 0 + Sha.mix ((Sha.upto l (t - 16)).getD (t - 15) 0) 7 18 3 + (Sha.upto l (t - 16)).getD (t - 7) 0 + Sha.mix ((Sha.upto l (t - 16)).getD (t - 2) 0) 17 19 10 := rfl
          obtain ⟨x16, e16⟩ : ∃ x, x = (Sha.upto l (t - 16)).getD (t - 16) 0 := ⟨_, rfl⟩
          obtain ⟨x15, e15⟩ : ∃ x, x = (Sha.upto l (t - 16)).getD (t - 15) 0 := ⟨_, rfl⟩
          obtain ⟨x7, e7⟩ : ∃ x, x = (Sha.upto l (t - 16)).getD (t - 7) 0 := ⟨_, rfl⟩
          obtain ⟨x2, e2⟩ : ∃ x, x = (Sha.upto l (t - 16)).getD (t - 2) 0 := ⟨_, rfl⟩
          rw [← e16, ← e15, ← e7, ← e2] at hmore
          rw [← e16] at g16
          rw [← e15] at g15
          rw [← e7] at g7
          rw [← e2] at g2
          clear e16 e15 e7 e2 hg
          obtain ⟨T1, hT1⟩ : ∃ x, x = Sha.rotr x15 7 := ⟨_, rfl⟩
          obtain ⟨T2, hT2⟩ : ∃ x, x = Sha.rotr x15 18 := ⟨_, rfl⟩
          obtain ⟨S1, hS1⟩ : ∃ x, x = T1 ^^^ T2 := ⟨_, rfl⟩
          obtain ⟨R1, hR1⟩ : ∃ x, x = Sha.shr x15 3 := ⟨_, rfl⟩
          obtain ⟨M1, hM1⟩ : ∃ x, x = S1 ^^^ R1 := ⟨_, rfl⟩
          obtain ⟨A1, hA1⟩ : ∃ x, x = x16 + M1 := ⟨_, rfl⟩
          obtain ⟨A2, hA2⟩ : ∃ x, x = A1 + x7 := ⟨_, rfl⟩
          obtain ⟨T3, hT3⟩ : ∃ x, x = Sha.rotr x2 17 := ⟨_, rfl⟩
          obtain ⟨T4, hT4⟩ : ∃ x, x = Sha.rotr x2 19 := ⟨_, rfl⟩
          obtain ⟨S2, hS2⟩ : ∃ x, x = T3 ^^^ T4 := ⟨_, rfl⟩
          obtain ⟨R2, hR2⟩ : ∃ x, x = Sha.shr x2 10 := ⟨_, rfl⟩
          obtain ⟨M2, hM2⟩ : ∃ x, x = S2 ^^^ R2 := ⟨_, rfl⟩
          obtain ⟨A3, hA3⟩ : ∃ x, x = A2 + M2 := ⟨_, rfl⟩
          have hmore2 : Sha.more (Sha.upto l (t - 16)) t = A3 := by rw [hmore, hA3, hA2, hA1, hM1, hM2, hS1, hS2, hR1, hR2, hT1, hT2, hT3, hT4]; rfl
          have c1 : ∀ w, Calls Try.prog 181 #[uv x15, .int .i64 7] w fun e w' => e = .returned (uv T1) ∧ Drew w w' := fun w => by rw [hT1]; exact hror.out x15 7 w (by omega) (by omega)
          have c2 : ∀ w, Calls Try.prog 181 #[uv x15, .int .i64 18] w fun e w' => e = .returned (uv T2) ∧ Drew w w' := fun w => by rw [hT2]; exact hror.out x15 18 w (by omega) (by omega)
          have c3 : ∀ w, Calls Try.prog 181 #[uv x2, .int .i64 17] w fun e w' => e = .returned (uv T3) ∧ Drew w w' := fun w => by rw [hT3]; exact hror.out x2 17 w (by omega) (by omega)
          have c4 : ∀ w, Calls Try.prog 181 #[uv x2, .int .i64 19] w fun e w' => e = .returned (uv T4) ∧ Drew w w' := fun w => by rw [hT4]; exact hror.out x2 19 w (by omega) (by omega)
          have r1 : (x15.toNat : Int) / 8 = (R1.toNat : Int) := by rw [hR1, shr_int]; rfl
          have r2 : (x2.toNat : Int) / 1024 = (R2.toNat : Int) := by rw [hR2, shr_int]; rfl
          replace hb2 := Lib.hid hb2
          replace hs := Lib.hid hs
          replace hmore2 := Lib.hid hmore2
          replace hul := Lib.hid hul
          replace c1 := Lib.hid c1
          replace c2 := Lib.hid c2
          replace c3 := Lib.hid c3
          replace c4 := Lib.hid c4
          replace r1 := Lib.hid r1
          replace r2 := Lib.hid r2
          clear hT1 hT2 hT3 hT4 hR1 hR2 hmore
          replace hS1 := Lib.hid hS1
          replace hS2 := Lib.hid hS2
          replace hM1 := Lib.hid hM1
          replace hM2 := Lib.hid hM2
          replace hA1 := Lib.hid hA1
          replace hA2 := Lib.hid hA2
          replace hA3 := Lib.hid hA3
          go_wp2
          refine wp_region_last (by kernel_rfl) [(68, 0), (69, 1), (70, 2), (71, 3), (72, 4), (73, 5), (74, 6), (75, 7), (76, 8), (77, 9), (78, 10), (79, 11), (80, 12), (81, 13), (82, 14), (83, 15), (84, 16), (85, 17), (86, 18), (87, 19), (88, 20), (89, 21), (90, 22), (91, 23), (92, 24), (93, 25), (94, 26), (95, 27), (96, 28)] Drew (Drew wr) [isV (.int .i64 (t : Int)), isV (.int .i64 (t : Int)), isV (.int .i64 ((t : Int) - 16)), isV (.pointer (some ⟨B5, t - 16, none⟩)), isV (uv x16), isV (uv x15), isV (uv T1), isV (uv x15), isV (uv T2), isV (uv S1), isV (uv x15), isV (uv R1), isV (uv M1), isV (uv A1), isV (.int .i64 (t : Int)), isV (.int .i64 ((t : Int) - 7)), isV (.pointer (some ⟨B5, t - 7, none⟩)), isV (uv x7), isV (uv A2), isV (uv x2), isV (uv T3), isV (uv x2), isV (uv T4), isV (uv S2), isV (uv x2), isV (uv R2), isV (uv M2), isV (uv A3), isV (.pointer (some ⟨B5, t, none⟩))] Drew.drew (fun _ _ h k => h.trans k) (by simp [isV_stable, isB_stable, isAny_stable]) (by decide) (l := [_, _, _, _, _, _, _, _, _, _, _, _, _, _, _, _, _, _, _, _, _, _, _, _, _, _, _, _, _]) rfl (by decide) (by decide) ?_ ?_
          · refine ⟨?_, ?_, ?_, ?_, ?_, ?_, ?_, ?_, ?_, ?_, ?_, ?_, ?_, ?_, ?_, ?_, ?_, ?_, ?_, ?_, ?_, ?_, ?_, ?_, ?_, ?_, ?_, ?_, ?_, trivial⟩
            all_goals (intro u wx hI hp; simp only [mkAct, List.foldl_cons, List.foldl_nil, List.setIfInBounds_toArray, List.set_cons_succ, List.set_cons_zero])
            · -- operation 0
              go_wp2
              refine stq_v rfl Drew.refl ?_
              first | (simp only [mkAct, List.foldl_cons, List.foldl_nil, List.setIfInBounds_toArray, List.set_cons_succ, List.set_cons_zero, upd, reduceIte, Nat.reduceEqDiff, Nat.reduceAdd, str]; done) | (simp [mkAct, upd, str, *]; done)
            · -- operation 1
              go_wp2
              refine stq_v rfl Drew.refl ?_
              first | (simp only [mkAct, List.foldl_cons, List.foldl_nil, List.setIfInBounds_toArray, List.set_cons_succ, List.set_cons_zero, upd, reduceIte, Nat.reduceEqDiff, Nat.reduceAdd, str]; done) | (simp [mkAct, upd, str, *]; done)
            · -- operation 2
              obtain ⟨f1, -⟩ := hp
              replace f1 : u 1 = (.int .i64 (t : Int)) := f1
              try simp only [f1, str]
              go_wp2
              refine stq_v rfl Drew.refl ?_
              first | (simp only [mkAct, List.foldl_cons, List.foldl_nil, List.setIfInBounds_toArray, List.set_cons_succ, List.set_cons_zero, upd, reduceIte, Nat.reduceEqDiff, Nat.reduceAdd, f1, str]; done) | (simp [mkAct, upd, f1, str, *]; done)
            · -- operation 3
              obtain ⟨f2, -⟩ := hp
              replace f2 : u 2 = (.int .i64 ((t : Int) - 16)) := f2
              try simp only [f2, str]
              go_wp2
              refine stq_v rfl Drew.refl ?_
              first | (simp only [mkAct, List.foldl_cons, List.foldl_nil, List.setIfInBounds_toArray, List.set_cons_succ, List.set_cons_zero, upd, reduceIte, Nat.reduceEqDiff, Nat.reduceAdd, f2, str]; done) | (simp [mkAct, upd, f2, str, *]; done)
            · -- operation 4
              obtain ⟨f3, -⟩ := hp
              replace f3 : u 3 = (.pointer (some ⟨B5, t - 16, none⟩)) := f3
              try simp only [f3, str]
              obtain ⟨q, rfl⟩ := hI
              go_wp2
              refine stq_v rfl Drew.refl ?_
              first | (simp only [mkAct, List.foldl_cons, List.foldl_nil, List.setIfInBounds_toArray, List.set_cons_succ, List.set_cons_zero, upd, reduceIte, Nat.reduceEqDiff, Nat.reduceAdd, f3, str]; done) | (simp [mkAct, upd, f3, str, *]; done)
            · -- operation 5
              go_wp2
              refine stq_v rfl Drew.refl ?_
              first | (simp only [mkAct, List.foldl_cons, List.foldl_nil, List.setIfInBounds_toArray, List.set_cons_succ, List.set_cons_zero, upd, reduceIte, Nat.reduceEqDiff, Nat.reduceAdd, str]; done) | (simp [mkAct, upd, str, *]; done)
            · -- operation 6
              obtain ⟨f5, -⟩ := hp
              replace f5 : u 5 = (uv x15) := f5
              try simp only [f5, str]
              go_wp2_with fail
              refine (c1.out _).mono ?_
              rintro e w1 ⟨rfl, hd⟩
              go_wp2
              refine stq_v rfl hd ?_
              first | (simp only [mkAct, List.foldl_cons, List.foldl_nil, List.setIfInBounds_toArray, List.set_cons_succ, List.set_cons_zero, upd, reduceIte, Nat.reduceEqDiff, Nat.reduceAdd, f5, str]; done) | (simp [mkAct, upd, f5, str, *]; done)
            · -- operation 7
              go_wp2
              refine stq_v rfl Drew.refl ?_
              first | (simp only [mkAct, List.foldl_cons, List.foldl_nil, List.setIfInBounds_toArray, List.set_cons_succ, List.set_cons_zero, upd, reduceIte, Nat.reduceEqDiff, Nat.reduceAdd, str]; done) | (simp [mkAct, upd, str, *]; done)
            · -- operation 8
              obtain ⟨f7, -, -⟩ := hp
              replace f7 : u 7 = (uv x15) := f7
              try simp only [f7, str]
              go_wp2_with fail
              refine (c2.out _).mono ?_
              rintro e w1 ⟨rfl, hd⟩
              go_wp2
              refine stq_v rfl hd ?_
              first | (simp only [mkAct, List.foldl_cons, List.foldl_nil, List.setIfInBounds_toArray, List.set_cons_succ, List.set_cons_zero, upd, reduceIte, Nat.reduceEqDiff, Nat.reduceAdd, f7, str]; done) | (simp [mkAct, upd, f7, str, *]; done)
            · -- operation 9
              obtain ⟨f6, f8, -⟩ := hp
              replace f6 : u 6 = (uv T1) := f6
              replace f8 : u 8 = (uv T2) := f8
              try simp only [f6, f8, str]
              go_wp2
              rw [u32_xor_words, ← hS1.out]
              refine stq_v rfl Drew.refl ?_
              first | (simp only [mkAct, List.foldl_cons, List.foldl_nil, List.setIfInBounds_toArray, List.set_cons_succ, List.set_cons_zero, upd, reduceIte, Nat.reduceEqDiff, Nat.reduceAdd, f6, f8, str]; done) | (simp [mkAct, upd, f6, f8, str, *]; done)
            · -- operation 10
              go_wp2
              refine stq_v rfl Drew.refl ?_
              first | (simp only [mkAct, List.foldl_cons, List.foldl_nil, List.setIfInBounds_toArray, List.set_cons_succ, List.set_cons_zero, upd, reduceIte, Nat.reduceEqDiff, Nat.reduceAdd, str]; done) | (simp [mkAct, upd, str, *]; done)
            · -- operation 11
              obtain ⟨f10, -⟩ := hp
              replace f10 : u 10 = (uv x15) := f10
              try simp only [f10, str]
              go_wp2
              rw [r1.out]
              refine stq_v rfl Drew.refl ?_
              first | (simp only [mkAct, List.foldl_cons, List.foldl_nil, List.setIfInBounds_toArray, List.set_cons_succ, List.set_cons_zero, upd, reduceIte, Nat.reduceEqDiff, Nat.reduceAdd, f10, str]; done) | (simp [mkAct, upd, f10, str, *]; done)
            · -- operation 12
              obtain ⟨f9, f11, -⟩ := hp
              replace f9 : u 9 = (uv S1) := f9
              replace f11 : u 11 = (uv R1) := f11
              try simp only [f9, f11, str]
              go_wp2
              rw [u32_xor_words, ← hM1.out]
              refine stq_v rfl Drew.refl ?_
              first | (simp only [mkAct, List.foldl_cons, List.foldl_nil, List.setIfInBounds_toArray, List.set_cons_succ, List.set_cons_zero, upd, reduceIte, Nat.reduceEqDiff, Nat.reduceAdd, f9, f11, str]; done) | (simp [mkAct, upd, f9, f11, str, *]; done)
            · -- operation 13
              obtain ⟨f4, f12, -⟩ := hp
              replace f4 : u 4 = (uv x16) := f4
              replace f12 : u 12 = (uv M1) := f12
              try simp only [f4, f12, str]
              go_wp2
              rw [u32_add_words, ← hA1.out]
              refine stq_v rfl Drew.refl ?_
              first | (simp only [mkAct, List.foldl_cons, List.foldl_nil, List.setIfInBounds_toArray, List.set_cons_succ, List.set_cons_zero, upd, reduceIte, Nat.reduceEqDiff, Nat.reduceAdd, f4, f12, str]; done) | (simp [mkAct, upd, f4, f12, str, *]; done)
            · -- operation 14
              go_wp2
              refine stq_v rfl Drew.refl ?_
              first | (simp only [mkAct, List.foldl_cons, List.foldl_nil, List.setIfInBounds_toArray, List.set_cons_succ, List.set_cons_zero, upd, reduceIte, Nat.reduceEqDiff, Nat.reduceAdd, str]; done) | (simp [mkAct, upd, str, *]; done)
            · -- operation 15
              obtain ⟨f14, -⟩ := hp
              replace f14 : u 14 = (.int .i64 (t : Int)) := f14
              try simp only [f14, str]
              go_wp2
              refine stq_v rfl Drew.refl ?_
              first | (simp only [mkAct, List.foldl_cons, List.foldl_nil, List.setIfInBounds_toArray, List.set_cons_succ, List.set_cons_zero, upd, reduceIte, Nat.reduceEqDiff, Nat.reduceAdd, f14, str]; done) | (simp [mkAct, upd, f14, str, *]; done)
            · -- operation 16
              obtain ⟨f15, -⟩ := hp
              replace f15 : u 15 = (.int .i64 ((t : Int) - 7)) := f15
              try simp only [f15, str]
              go_wp2
              refine stq_v rfl Drew.refl ?_
              first | (simp only [mkAct, List.foldl_cons, List.foldl_nil, List.setIfInBounds_toArray, List.set_cons_succ, List.set_cons_zero, upd, reduceIte, Nat.reduceEqDiff, Nat.reduceAdd, f15, str]; done) | (simp [mkAct, upd, f15, str, *]; done)
            · -- operation 17
              obtain ⟨f16, -⟩ := hp
              replace f16 : u 16 = (.pointer (some ⟨B5, t - 7, none⟩)) := f16
              try simp only [f16, str]
              obtain ⟨q, rfl⟩ := hI
              go_wp2
              refine stq_v rfl Drew.refl ?_
              first | (simp only [mkAct, List.foldl_cons, List.foldl_nil, List.setIfInBounds_toArray, List.set_cons_succ, List.set_cons_zero, upd, reduceIte, Nat.reduceEqDiff, Nat.reduceAdd, f16, str]; done) | (simp [mkAct, upd, f16, str, *]; done)
            · -- operation 18
              obtain ⟨f13, f17, -⟩ := hp
              replace f13 : u 13 = (uv A1) := f13
              replace f17 : u 17 = (uv x7) := f17
              try simp only [f13, f17, str]
              go_wp2
              rw [u32_add_words, ← hA2.out]
              refine stq_v rfl Drew.refl ?_
              first | (simp only [mkAct, List.foldl_cons, List.foldl_nil, List.setIfInBounds_toArray, List.set_cons_succ, List.set_cons_zero, upd, reduceIte, Nat.reduceEqDiff, Nat.reduceAdd, f13, f17, str]; done) | (simp [mkAct, upd, f13, f17, str, *]; done)
            · -- operation 19
              go_wp2
              refine stq_v rfl Drew.refl ?_
              first | (simp only [mkAct, List.foldl_cons, List.foldl_nil, List.setIfInBounds_toArray, List.set_cons_succ, List.set_cons_zero, upd, reduceIte, Nat.reduceEqDiff, Nat.reduceAdd, str]; done) | (simp [mkAct, upd, str, *]; done)
            · -- operation 20
              obtain ⟨f19, -, -⟩ := hp
              replace f19 : u 19 = (uv x2) := f19
              try simp only [f19, str]
              go_wp2_with fail
              refine (c3.out _).mono ?_
              rintro e w1 ⟨rfl, hd⟩
              go_wp2
              refine stq_v rfl hd ?_
              first | (simp only [mkAct, List.foldl_cons, List.foldl_nil, List.setIfInBounds_toArray, List.set_cons_succ, List.set_cons_zero, upd, reduceIte, Nat.reduceEqDiff, Nat.reduceAdd, f19, str]; done) | (simp [mkAct, upd, f19, str, *]; done)
            · -- operation 21
              go_wp2
              refine stq_v rfl Drew.refl ?_
              first | (simp only [mkAct, List.foldl_cons, List.foldl_nil, List.setIfInBounds_toArray, List.set_cons_succ, List.set_cons_zero, upd, reduceIte, Nat.reduceEqDiff, Nat.reduceAdd, str]; done) | (simp [mkAct, upd, str, *]; done)
            · -- operation 22
              obtain ⟨f21, -, -⟩ := hp
              replace f21 : u 21 = (uv x2) := f21
              try simp only [f21, str]
              go_wp2_with fail
              refine (c4.out _).mono ?_
              rintro e w1 ⟨rfl, hd⟩
              go_wp2
              refine stq_v rfl hd ?_
              first | (simp only [mkAct, List.foldl_cons, List.foldl_nil, List.setIfInBounds_toArray, List.set_cons_succ, List.set_cons_zero, upd, reduceIte, Nat.reduceEqDiff, Nat.reduceAdd, f21, str]; done) | (simp [mkAct, upd, f21, str, *]; done)
            · -- operation 23
              obtain ⟨f20, f22, -⟩ := hp
              replace f20 : u 20 = (uv T3) := f20
              replace f22 : u 22 = (uv T4) := f22
              try simp only [f20, f22, str]
              go_wp2
              rw [u32_xor_words, ← hS2.out]
              refine stq_v rfl Drew.refl ?_
              first | (simp only [mkAct, List.foldl_cons, List.foldl_nil, List.setIfInBounds_toArray, List.set_cons_succ, List.set_cons_zero, upd, reduceIte, Nat.reduceEqDiff, Nat.reduceAdd, f20, f22, str]; done) | (simp [mkAct, upd, f20, f22, str, *]; done)
            · -- operation 24
              go_wp2
              refine stq_v rfl Drew.refl ?_
              first | (simp only [mkAct, List.foldl_cons, List.foldl_nil, List.setIfInBounds_toArray, List.set_cons_succ, List.set_cons_zero, upd, reduceIte, Nat.reduceEqDiff, Nat.reduceAdd, str]; done) | (simp [mkAct, upd, str, *]; done)
            · -- operation 25
              obtain ⟨f24, -⟩ := hp
              replace f24 : u 24 = (uv x2) := f24
              try simp only [f24, str]
              go_wp2
              rw [r2.out]
              refine stq_v rfl Drew.refl ?_
              first | (simp only [mkAct, List.foldl_cons, List.foldl_nil, List.setIfInBounds_toArray, List.set_cons_succ, List.set_cons_zero, upd, reduceIte, Nat.reduceEqDiff, Nat.reduceAdd, f24, str]; done) | (simp [mkAct, upd, f24, str, *]; done)
            · -- operation 26
              obtain ⟨f23, f25, -⟩ := hp
              replace f23 : u 23 = (uv S2) := f23
              replace f25 : u 25 = (uv R2) := f25
              try simp only [f23, f25, str]
              go_wp2
              rw [u32_xor_words, ← hM2.out]
              refine stq_v rfl Drew.refl ?_
              first | (simp only [mkAct, List.foldl_cons, List.foldl_nil, List.setIfInBounds_toArray, List.set_cons_succ, List.set_cons_zero, upd, reduceIte, Nat.reduceEqDiff, Nat.reduceAdd, f23, f25, str]; done) | (simp [mkAct, upd, f23, f25, str, *]; done)
            · -- operation 27
              obtain ⟨f18, f26, -⟩ := hp
              replace f18 : u 18 = (uv A2) := f18
              replace f26 : u 26 = (uv M2) := f26
              try simp only [f18, f26, str]
              go_wp2
              rw [u32_add_words, ← hA3.out]
              refine stq_v rfl Drew.refl ?_
              first | (simp only [mkAct, List.foldl_cons, List.foldl_nil, List.setIfInBounds_toArray, List.set_cons_succ, List.set_cons_zero, upd, reduceIte, Nat.reduceEqDiff, Nat.reduceAdd, f18, f26, str]; done) | (simp [mkAct, upd, f18, f26, str, *]; done)
            · -- operation 28
              obtain ⟨f0, -, -, -, -, -, -, -, -, -, -, -, -, -, -, -, -, -, -, -, -, -, -, -, -, -, -, -, -, -⟩ := hp
              replace f0 : u 0 = (.int .i64 (t : Int)) := f0
              try simp only [f0, str]
              go_wp2
              refine stq_v rfl Drew.refl ?_
              first | (simp only [mkAct, List.foldl_cons, List.foldl_nil, List.setIfInBounds_toArray, List.set_cons_succ, List.set_cons_zero, upd, reduceIte, Nat.reduceEqDiff, Nat.reduceAdd, f0, str]; done) | (simp [mkAct, upd, f0, str, *]; done)
          · intro u wx hI hR
            obtain ⟨r0, r1, r2, r3, r4, r5, r6, r7, r8, r9, r10, r11, r12, r13, r14, r15, r16, r17, r18, r19, r20, r21, r22, r23, r24, r25, r26, r27, r28, -⟩ := hR
            replace r0 : u 0 = (.int .i64 (t : Int)) := r0
            replace r1 : u 1 = (.int .i64 (t : Int)) := r1
            replace r2 : u 2 = (.int .i64 ((t : Int) - 16)) := r2
            replace r3 : u 3 = (.pointer (some ⟨B5, t - 16, none⟩)) := r3
            replace r4 : u 4 = (uv x16) := r4
            replace r5 : u 5 = (uv x15) := r5
            replace r6 : u 6 = (uv T1) := r6
            replace r7 : u 7 = (uv x15) := r7
            replace r8 : u 8 = (uv T2) := r8
            replace r9 : u 9 = (uv S1) := r9
            replace r10 : u 10 = (uv x15) := r10
            replace r11 : u 11 = (uv R1) := r11
            replace r12 : u 12 = (uv M1) := r12
            replace r13 : u 13 = (uv A1) := r13
            replace r14 : u 14 = (.int .i64 (t : Int)) := r14
            replace r15 : u 15 = (.int .i64 ((t : Int) - 7)) := r15
            replace r16 : u 16 = (.pointer (some ⟨B5, t - 7, none⟩)) := r16
            replace r17 : u 17 = (uv x7) := r17
            replace r18 : u 18 = (uv A2) := r18
            replace r19 : u 19 = (uv x2) := r19
            replace r20 : u 20 = (uv T3) := r20
            replace r21 : u 21 = (uv x2) := r21
            replace r22 : u 22 = (uv T4) := r22
            replace r23 : u 23 = (uv S2) := r23
            replace r24 : u 24 = (uv x2) := r24
            replace r25 : u 25 = (uv R2) := r25
            replace r26 : u 26 = (uv M2) := r26
            replace r27 : u 27 = (uv A3) := r27
            replace r28 : u 28 = (.pointer (some ⟨B5, t, none⟩)) := r28
            simp only [mkAct, List.foldl_cons, List.foldl_nil, List.setIfInBounds_toArray, List.set_cons_succ, List.set_cons_zero]
            try simp only [str, r0, r1, r2, r3, r4, r5, r6, r7, r8, r9, r10, r11, r12, r13, r14, r15, r16, r17, r18, r19, r20, r21, r22, r23, r24, r25, r26, r27, r28]
            obtain ⟨q, rfl⟩ := hI
            go_wp2
            go_roundw
            case rel =>
              have hk2 : Keep (· = B5) wr ((wr.setCell ⟨B5, t, none⟩ (uv A3)).drewN q) :=
                (Keep.setCell (p := (· = B5)) _ rfl).trans (Keep.of_same (p := (· = B5)) (Same.refl.drewN q)) (fun _ _ h => h)
              refine ⟨t + 1, by omega, by omega, by go_num, ?_, hs.out.trans hk2 (fun _ _ h => h)⟩
              have e1 : (t + 1 - 16) = (t - 16) + 1 := by omega
              have e2 : 16 + (t - 16) = t := by omega
              rw [e1, Sha.upto_succ, e2, ← fill_set _ _ _ (by rw [hul.out]; omega), hul.out, hmore2.out]
              exact blk_set hb2.out
            case measure => simp [intOf]; omega
          -- B]]
        · obtain rfl : t = 64 := by omega
          have hfull : fill (Sha.upto l (64 - 16)) 64 = Sha.words l := by
            unfold fill
            rw [Sha.words_eq, Sha.upto_length]
            simp
          rw [hfull] at hb2
          have hbh := (hs.block _ (blk_lt hbx2.out) (by omega)).trans hbx2.out
          have hbr := (hs.block _ (blk_lt hbd2.out) (by omega)).trans hbd2.out
          have hs2 : Same w wr := hs02.out.keep hs (fun x hx hv => by have := hB2.out; omega)
          clear hfull hlt ht1 ht2 hs
          obtain ⟨W, hW⟩ : ∃ W, W = Sha.words l := ⟨_, rfl⟩
          rw [← hW] at hb2
          have hWl : W.length = 64 := by rw [hW, Sha.words_length]
          have hbk2 := Sha.block_eq s l
          rw [← hW] at hbk2
          clear hW
          replace hWl := Lib.hid hWl
          replace hbk2 := Lib.hid hbk2
          replace hb2 := Lib.hid hb2
          replace hbh := Lib.hid hbh
          replace hbr := Lib.hid hbr
          replace hs2 := Lib.hid hs2
          clear hbx2 hbd2 hc
          go_wp2_with (first | (refine load_row rfl _ _ rfl B2 rfl _ _ _ _ hbh.out Try.underlying214 rfl hinf.out ?_) | (refine alloc_new rfl 214 rfl (uvs (List.replicate 8 0)).toArray (by kernel_rfl) ?_; intro w6 hb6 hs6; have hb6l := blk_lt hb6; replace hb6 := Lib.hid hb6; replace hs6 := Lib.hid hs6) | (refine store_row rfl _ _ _ rfl wr.heap.size _ rfl rfl _ _ hb6.out hinf.out rfl (uvs_all _) ?_; intro w7 hb7 hk7; replace hb7 := Lib.hid hb7; replace hk7 := Lib.hid hk7))
          have hx5 := blk_lt hb2.out
          have hx2 := blk_lt hbh.out
          have hx4 := blk_lt hbr.out
          have hb2' := (hk7.out.block _ (by have := hs6.out.size; omega) (by omega)).trans ((hs6.out.block _ hx5).trans hb2.out)
          have hbh' := (hk7.out.block _ (by have := hs6.out.size; omega) (by omega)).trans ((hs6.out.block _ hx2).trans hbh.out)
          have hbr' := (hk7.out.block _ (by have := hs6.out.size; omega) (by omega)).trans ((hs6.out.block _ hx4).trans hbr.out)
          have hs7 : Same w w7 := (hs2.out.trans hs6.out).keep hk7.out (fun x hx hv => by have := hs2.out.size; omega)
          have hz7 : w.heap.size ≤ wr.heap.size := hs2.out.size
          obtain ⟨BV, hBV⟩ : ∃ B, B = wr.heap.size := ⟨_, rfl⟩
          rw [← hBV] at hb7 hx5 hx2 hx4 hz7
          rw [← hBV]
          clear hBV hb6 hs6 hk7 hb6l hb2 hbh hbr hs2
          have hW2 := blk_lt hb7.out
          replace hb2' := Lib.hid hb2'
          replace hbh' := Lib.hid hbh'
          replace hbr' := Lib.hid hbr'
          replace hs7 := Lib.hid hs7
          have hcons := Lib.hid constant_any
          go_loopw [11] (fun i wx => ∃ t : Nat, t ≤ 64 ∧ i = .int .i64 t ∧ wx.heap[BV]? = some (.cells (uvs (s.run W t).list).toArray 214 (0, 0)) ∧ Keep (· = BV) w7 wx) (fun i _ => 64 - (intOf i).toNat)
          case atStart => exact ⟨0, by omega, rfl, by rw [Sha.run_zero]; exact hb7.out, Keep.refl⟩
          case round =>
            obtain ⟨t, ht, rfl, hbv, hk⟩ := hrel
            by_cases hlt : t < 64
            · have hstep := Sha.run_succ s W t
              obtain ⟨S, hS⟩ : ∃ S, S = s.run W t := ⟨_, rfl⟩
              rw [← hS] at hstep hbv
              have hvc := fun j (hj : j < 8) => (blk_cell hbv j).trans (uvs_get (l := S.list) (by rw [list_len]; exact hj))
              have v0 : wr.cell? ⟨BV, 0, none⟩ = some (uv S.a) := hvc 0 (by omega)
              have v1 : wr.cell? ⟨BV, 1, none⟩ = some (uv S.b) := hvc 1 (by omega)
              have v2 : wr.cell? ⟨BV, 2, none⟩ = some (uv S.c) := hvc 2 (by omega)
              have v3 : wr.cell? ⟨BV, 3, none⟩ = some (uv S.d) := hvc 3 (by omega)
              have v4 : wr.cell? ⟨BV, 4, none⟩ = some (uv S.e) := hvc 4 (by omega)
              have v5 : wr.cell? ⟨BV, 5, none⟩ = some (uv S.f) := hvc 5 (by omega)
              have v6 : wr.cell? ⟨BV, 6, none⟩ = some (uv S.g) := hvc 6 (by omega)
              have v7 : wr.cell? ⟨BV, 7, none⟩ = some (uv S.h) := hvc 7 (by omega)
              have hBVl := blk_lt hbv
              have cw := (blk_cell ((hk.block B5 (blk_lt hb2'.out) (by omega)).trans hb2'.out) t).trans (uvs_get (by rw [hWl.out]; exact hlt))
              obtain ⟨k, hkk⟩ : ∃ k, k = W.getD t 0 := ⟨_, rfl⟩
              rw [← hkk] at cw hstep
              clear hkk hS hvc
              replace hstep := Lib.hid hstep
              replace cw := Lib.hid cw
              replace hk := Lib.hid hk
              replace hbv := Lib.hid hbv
              obtain ⟨T1, hT1⟩ : ∃ x, x = Sha.rotr S.e 6 := ⟨_, rfl⟩
              obtain ⟨T2, hT2⟩ : ∃ x, x = Sha.rotr S.e 11 := ⟨_, rfl⟩
              obtain ⟨T3, hT3⟩ : ∃ x, x = Sha.rotr S.e 25 := ⟨_, rfl⟩
              obtain ⟨X1, hX1⟩ : ∃ x, x = T1 ^^^ T2 := ⟨_, rfl⟩
              obtain ⟨T, hT⟩ : ∃ x, x = X1 ^^^ T3 := ⟨_, rfl⟩
              obtain ⟨q1, hq1⟩ : ∃ x, x = S.h + T := ⟨_, rfl⟩
              obtain ⟨p1, hp1⟩ : ∃ x, x = S.e &&& S.f := ⟨_, rfl⟩
              obtain ⟨nn, hnn⟩ : ∃ x, x = ~~~ S.e := ⟨_, rfl⟩
              obtain ⟨p2, hp2⟩ : ∃ x, x = nn &&& S.g := ⟨_, rfl⟩
              obtain ⟨p3, hp3⟩ : ∃ x, x = p1 ^^^ p2 := ⟨_, rfl⟩
              obtain ⟨q2, hq2⟩ : ∃ x, x = q1 + p3 := ⟨_, rfl⟩
              obtain ⟨kt, hkt⟩ : ∃ x, x = Sha.kAt t := ⟨_, rfl⟩
              obtain ⟨q3, hq3⟩ : ∃ x, x = q2 + kt := ⟨_, rfl⟩
              obtain ⟨q4, hq4⟩ : ∃ x, x = q3 + k := ⟨_, rfl⟩
              obtain ⟨T5, hT5⟩ : ∃ x, x = Sha.rotr S.a 2 := ⟨_, rfl⟩
              obtain ⟨T6, hT6⟩ : ∃ x, x = Sha.rotr S.a 13 := ⟨_, rfl⟩
              obtain ⟨T7, hT7⟩ : ∃ x, x = Sha.rotr S.a 22 := ⟨_, rfl⟩
              obtain ⟨X2, hX2⟩ : ∃ x, x = T5 ^^^ T6 := ⟨_, rfl⟩
              obtain ⟨U, hU⟩ : ∃ x, x = X2 ^^^ T7 := ⟨_, rfl⟩
              obtain ⟨m1, hm1⟩ : ∃ x, x = S.a &&& S.b := ⟨_, rfl⟩
              obtain ⟨m2, hm2⟩ : ∃ x, x = S.a &&& S.c := ⟨_, rfl⟩
              obtain ⟨m3, hm3⟩ : ∃ x, x = m1 ^^^ m2 := ⟨_, rfl⟩
              obtain ⟨m4, hm4⟩ : ∃ x, x = S.b &&& S.c := ⟨_, rfl⟩
              obtain ⟨m5, hm5⟩ : ∃ x, x = m3 ^^^ m4 := ⟨_, rfl⟩
              obtain ⟨y, hy⟩ : ∃ x, x = U + m5 := ⟨_, rfl⟩
              obtain ⟨z1, hz1⟩ : ∃ x, x = q4 + y := ⟨_, rfl⟩
              obtain ⟨z2, hz2⟩ : ∃ x, x = S.d + q4 := ⟨_, rfl⟩
              have hst : S.step (Sha.kAt t) k = ⟨z1, S.a, S.b, S.c, z2, S.e, S.f, S.g⟩ := by
                rw [hz1, hz2, hy, hU, hX2, hT5, hT6, hT7, hm5, hm4, hm3, hm2, hm1, hq4, hq3, hq2, hq1, hT, hX1, hT1, hT2, hT3, hkt, hp3, hp2, hp1, hnn]
                rfl
              have c1 : ∀ w, Calls Try.prog 181 #[uv S.e, .int .i64 6] w fun e w' => e = .returned (uv T1) ∧ Drew w w' := fun w => by rw [hT1]; exact hror.out S.e 6 w (by omega) (by omega)
              have c2 : ∀ w, Calls Try.prog 181 #[uv S.e, .int .i64 11] w fun e w' => e = .returned (uv T2) ∧ Drew w w' := fun w => by rw [hT2]; exact hror.out S.e 11 w (by omega) (by omega)
              have c3 : ∀ w, Calls Try.prog 181 #[uv S.e, .int .i64 25] w fun e w' => e = .returned (uv T3) ∧ Drew w w' := fun w => by rw [hT3]; exact hror.out S.e 25 w (by omega) (by omega)
              have c5 : ∀ w, Calls Try.prog 181 #[uv S.a, .int .i64 2] w fun e w' => e = .returned (uv T5) ∧ Drew w w' := fun w => by rw [hT5]; exact hror.out S.a 2 w (by omega) (by omega)
              have c6 : ∀ w, Calls Try.prog 181 #[uv S.a, .int .i64 13] w fun e w' => e = .returned (uv T6) ∧ Drew w w' := fun w => by rw [hT6]; exact hror.out S.a 13 w (by omega) (by omega)
              have c7 : ∀ w, Calls Try.prog 181 #[uv S.a, .int .i64 22] w fun e w' => e = .returned (uv T7) ∧ Drew w w' := fun w => by rw [hT7]; exact hror.out S.a 22 w (by omega) (by omega)
              have ck : ∀ w, Calls Try.prog 182 #[.int .i64 t] w fun e w' => e = .returned (uv kt) ∧ Same w w' := fun w => by rw [hkt]; exact hcons.out t w hlt
              clear hT1 hT2 hT3 hT5 hT6 hT7 hkt
              replace hX1 := Lib.hid hX1
              replace hT := Lib.hid hT
              replace hq1 := Lib.hid hq1
              replace hp1 := Lib.hid hp1
              replace hnn := Lib.hid hnn
              replace hp2 := Lib.hid hp2
              replace hp3 := Lib.hid hp3
              replace hq2 := Lib.hid hq2
              replace hq3 := Lib.hid hq3
              replace hq4 := Lib.hid hq4
              replace hX2 := Lib.hid hX2
              replace hU := Lib.hid hU
              replace hm1 := Lib.hid hm1
              replace hm2 := Lib.hid hm2
              replace hm3 := Lib.hid hm3
              replace hm4 := Lib.hid hm4
              replace hm5 := Lib.hid hm5
              replace hy := Lib.hid hy
              replace hz1 := Lib.hid hz1
              replace hz2 := Lib.hid hz2
              replace c1 := Lib.hid c1
              replace c2 := Lib.hid c2
              replace c3 := Lib.hid c3
              replace c5 := Lib.hid c5
              replace c6 := Lib.hid c6
              replace c7 := Lib.hid c7
              replace ck := Lib.hid ck
              replace hst := Lib.hid hst
              go_upto_region 18 with fail
              go_cut [14] (fun v wx => v = uv q4 ∧ Same wr wx)
              case first =>
                -- [[C
                refine wp_region_last (by kernel_rfl) [(106, 0), (107, 1), (108, 2), (109, 3), (110, 4), (111, 5), (112, 6), (113, 7), (114, 8), (115, 9), (116, 10), (117, 11), (118, 12), (119, 13), (120, 14), (121, 15), (122, 16), (123, 17), (124, 18), (125, 19), (126, 20), (127, 21), (128, 22), (129, 23), (130, 24), (131, 25), (132, 26), (133, 27), (134, 28), (14, 29)] Same (Same _) [isV (.pointer (some ⟨BV, 7, none⟩)), isV (uv S.h), isV (uv S.e), isV (uv T1), isV (uv S.e), isV (uv T2), isV (uv X1), isV (uv S.e), isV (uv T3), isV (uv T), isV (uv q1), isV (uv S.e), isV (.pointer (some ⟨BV, 5, none⟩)), isV (uv S.f), isV (uv p1), isV (uv S.e), isV (uv nn), isV (.pointer (some ⟨BV, 6, none⟩)), isV (uv S.g), isV (uv p2), isV (uv p3), isV (uv q2), isV (.int .i64 (t : Int)), isV (uv kt), isV (uv q3), isV (.int .i64 (t : Int)), isV (.pointer (some ⟨B5, t, none⟩)), isV (uv k), isV (uv q4)] Same.refl.drew (fun _ _ h k => h.trans k) (by simp [isV_stable, isB_stable, isAny_stable]) (by decide) (l := [_, _, _, _, _, _, _, _, _, _, _, _, _, _, _, _, _, _, _, _, _, _, _, _, _, _, _, _, _]) rfl (by decide) (by decide) ?_ ?_
                · refine ⟨?_, ?_, ?_, ?_, ?_, ?_, ?_, ?_, ?_, ?_, ?_, ?_, ?_, ?_, ?_, ?_, ?_, ?_, ?_, ?_, ?_, ?_, ?_, ?_, ?_, ?_, ?_, ?_, ?_, trivial⟩
                  all_goals (intro u wx hI hp; simp only [mkAct, List.foldl_cons, List.foldl_nil, List.setIfInBounds_toArray, List.set_cons_succ, List.set_cons_zero])
                  · -- operation 0
                    go_wp2
                    refine stq_v rfl Same.refl ?_
                    first | (simp only [mkAct, List.foldl_cons, List.foldl_nil, List.setIfInBounds_toArray, List.set_cons_succ, List.set_cons_zero, upd, reduceIte, Nat.reduceEqDiff, Nat.reduceAdd, str]; done) | (simp [mkAct, upd, str, *]; done)
                  · -- operation 1
                    obtain ⟨f0, -⟩ := hp
                    replace f0 : u 0 = (.pointer (some ⟨BV, 7, none⟩)) := f0
                    try simp only [f0, str]
                    have cx := hI.cell v7
                    go_wp2
                    refine stq_v rfl Same.refl ?_
                    first | (simp only [mkAct, List.foldl_cons, List.foldl_nil, List.setIfInBounds_toArray, List.set_cons_succ, List.set_cons_zero, upd, reduceIte, Nat.reduceEqDiff, Nat.reduceAdd, f0, str]; done) | (simp [mkAct, upd, f0, str, *]; done)
                  · -- operation 2
                    go_wp2
                    refine stq_v rfl Same.refl ?_
                    first | (simp only [mkAct, List.foldl_cons, List.foldl_nil, List.setIfInBounds_toArray, List.set_cons_succ, List.set_cons_zero, upd, reduceIte, Nat.reduceEqDiff, Nat.reduceAdd, str]; done) | (simp [mkAct, upd, str, *]; done)
                  · -- operation 3
                    obtain ⟨f2, -⟩ := hp
                    replace f2 : u 2 = (uv S.e) := f2
                    try simp only [f2, str]
                    go_wp2_with fail
                    refine (c1.out _).mono ?_
                    rintro e w1 ⟨rfl, hd⟩
                    go_wp2
                    refine stq_v rfl hd.same ?_
                    first | (simp only [mkAct, List.foldl_cons, List.foldl_nil, List.setIfInBounds_toArray, List.set_cons_succ, List.set_cons_zero, upd, reduceIte, Nat.reduceEqDiff, Nat.reduceAdd, f2, str]; done) | (simp [mkAct, upd, f2, str, *]; done)
                  · -- operation 4
                    go_wp2
                    refine stq_v rfl Same.refl ?_
                    first | (simp only [mkAct, List.foldl_cons, List.foldl_nil, List.setIfInBounds_toArray, List.set_cons_succ, List.set_cons_zero, upd, reduceIte, Nat.reduceEqDiff, Nat.reduceAdd, str]; done) | (simp [mkAct, upd, str, *]; done)
                  · -- operation 5
                    obtain ⟨f4, -, -⟩ := hp
                    replace f4 : u 4 = (uv S.e) := f4
                    try simp only [f4, str]
                    go_wp2_with fail
                    refine (c2.out _).mono ?_
                    rintro e w1 ⟨rfl, hd⟩
                    go_wp2
                    refine stq_v rfl hd.same ?_
                    first | (simp only [mkAct, List.foldl_cons, List.foldl_nil, List.setIfInBounds_toArray, List.set_cons_succ, List.set_cons_zero, upd, reduceIte, Nat.reduceEqDiff, Nat.reduceAdd, f4, str]; done) | (simp [mkAct, upd, f4, str, *]; done)
                  · -- operation 6
                    obtain ⟨f3, f5, -⟩ := hp
                    replace f3 : u 3 = (uv T1) := f3
                    replace f5 : u 5 = (uv T2) := f5
                    try simp only [f3, f5, str]
                    go_wp2
                    rw [u32_xor_words, ← hX1.out]
                    refine stq_v rfl Same.refl ?_
                    first | (simp only [mkAct, List.foldl_cons, List.foldl_nil, List.setIfInBounds_toArray, List.set_cons_succ, List.set_cons_zero, upd, reduceIte, Nat.reduceEqDiff, Nat.reduceAdd, f3, f5, str]; done) | (simp [mkAct, upd, f3, f5, str, *]; done)
                  · -- operation 7
                    go_wp2
                    refine stq_v rfl Same.refl ?_
                    first | (simp only [mkAct, List.foldl_cons, List.foldl_nil, List.setIfInBounds_toArray, List.set_cons_succ, List.set_cons_zero, upd, reduceIte, Nat.reduceEqDiff, Nat.reduceAdd, str]; done) | (simp [mkAct, upd, str, *]; done)
                  · -- operation 8
                    obtain ⟨f7, -, -⟩ := hp
                    replace f7 : u 7 = (uv S.e) := f7
                    try simp only [f7, str]
                    go_wp2_with fail
                    refine (c3.out _).mono ?_
                    rintro e w1 ⟨rfl, hd⟩
                    go_wp2
                    refine stq_v rfl hd.same ?_
                    first | (simp only [mkAct, List.foldl_cons, List.foldl_nil, List.setIfInBounds_toArray, List.set_cons_succ, List.set_cons_zero, upd, reduceIte, Nat.reduceEqDiff, Nat.reduceAdd, f7, str]; done) | (simp [mkAct, upd, f7, str, *]; done)
                  · -- operation 9
                    obtain ⟨f6, f8, -⟩ := hp
                    replace f6 : u 6 = (uv X1) := f6
                    replace f8 : u 8 = (uv T3) := f8
                    try simp only [f6, f8, str]
                    go_wp2
                    rw [u32_xor_words, ← hT.out]
                    refine stq_v rfl Same.refl ?_
                    first | (simp only [mkAct, List.foldl_cons, List.foldl_nil, List.setIfInBounds_toArray, List.set_cons_succ, List.set_cons_zero, upd, reduceIte, Nat.reduceEqDiff, Nat.reduceAdd, f6, f8, str]; done) | (simp [mkAct, upd, f6, f8, str, *]; done)
                  · -- operation 10
                    obtain ⟨f1, f9, -⟩ := hp
                    replace f1 : u 1 = (uv S.h) := f1
                    replace f9 : u 9 = (uv T) := f9
                    try simp only [f1, f9, str]
                    go_wp2
                    rw [u32_add_words, ← hq1.out]
                    refine stq_v rfl Same.refl ?_
                    first | (simp only [mkAct, List.foldl_cons, List.foldl_nil, List.setIfInBounds_toArray, List.set_cons_succ, List.set_cons_zero, upd, reduceIte, Nat.reduceEqDiff, Nat.reduceAdd, f1, f9, str]; done) | (simp [mkAct, upd, f1, f9, str, *]; done)
                  · -- operation 11
                    go_wp2
                    refine stq_v rfl Same.refl ?_
                    first | (simp only [mkAct, List.foldl_cons, List.foldl_nil, List.setIfInBounds_toArray, List.set_cons_succ, List.set_cons_zero, upd, reduceIte, Nat.reduceEqDiff, Nat.reduceAdd, str]; done) | (simp [mkAct, upd, str, *]; done)
                  · -- operation 12
                    go_wp2
                    refine stq_v rfl Same.refl ?_
                    first | (simp only [mkAct, List.foldl_cons, List.foldl_nil, List.setIfInBounds_toArray, List.set_cons_succ, List.set_cons_zero, upd, reduceIte, Nat.reduceEqDiff, Nat.reduceAdd, str]; done) | (simp [mkAct, upd, str, *]; done)
                  · -- operation 13
                    obtain ⟨f12, -⟩ := hp
                    replace f12 : u 12 = (.pointer (some ⟨BV, 5, none⟩)) := f12
                    try simp only [f12, str]
                    have cx := hI.cell v5
                    go_wp2
                    refine stq_v rfl Same.refl ?_
                    first | (simp only [mkAct, List.foldl_cons, List.foldl_nil, List.setIfInBounds_toArray, List.set_cons_succ, List.set_cons_zero, upd, reduceIte, Nat.reduceEqDiff, Nat.reduceAdd, f12, str]; done) | (simp [mkAct, upd, f12, str, *]; done)
                  · -- operation 14
                    obtain ⟨f11, f13, -⟩ := hp
                    replace f11 : u 11 = (uv S.e) := f11
                    replace f13 : u 13 = (uv S.f) := f13
                    try simp only [f11, f13, str]
                    go_wp2
                    rw [u32_and_words, ← hp1.out]
                    refine stq_v rfl Same.refl ?_
                    first | (simp only [mkAct, List.foldl_cons, List.foldl_nil, List.setIfInBounds_toArray, List.set_cons_succ, List.set_cons_zero, upd, reduceIte, Nat.reduceEqDiff, Nat.reduceAdd, f11, f13, str]; done) | (simp [mkAct, upd, f11, f13, str, *]; done)
                  · -- operation 15
                    go_wp2
                    refine stq_v rfl Same.refl ?_
                    first | (simp only [mkAct, List.foldl_cons, List.foldl_nil, List.setIfInBounds_toArray, List.set_cons_succ, List.set_cons_zero, upd, reduceIte, Nat.reduceEqDiff, Nat.reduceAdd, str]; done) | (simp [mkAct, upd, str, *]; done)
                  · -- operation 16
                    obtain ⟨f15, -⟩ := hp
                    replace f15 : u 15 = (uv S.e) := f15
                    try simp only [f15, str]
                    go_wp2
                    rw [u32_not_words, ← hnn.out]
                    refine stq_v rfl Same.refl ?_
                    first | (simp only [mkAct, List.foldl_cons, List.foldl_nil, List.setIfInBounds_toArray, List.set_cons_succ, List.set_cons_zero, upd, reduceIte, Nat.reduceEqDiff, Nat.reduceAdd, f15, str]; done) | (simp [mkAct, upd, f15, str, *]; done)
                  · -- operation 17
                    go_wp2
                    refine stq_v rfl Same.refl ?_
                    first | (simp only [mkAct, List.foldl_cons, List.foldl_nil, List.setIfInBounds_toArray, List.set_cons_succ, List.set_cons_zero, upd, reduceIte, Nat.reduceEqDiff, Nat.reduceAdd, str]; done) | (simp [mkAct, upd, str, *]; done)
                  · -- operation 18
                    obtain ⟨f17, -⟩ := hp
                    replace f17 : u 17 = (.pointer (some ⟨BV, 6, none⟩)) := f17
                    try simp only [f17, str]
                    have cx := hI.cell v6
                    go_wp2
                    refine stq_v rfl Same.refl ?_
                    first | (simp only [mkAct, List.foldl_cons, List.foldl_nil, List.setIfInBounds_toArray, List.set_cons_succ, List.set_cons_zero, upd, reduceIte, Nat.reduceEqDiff, Nat.reduceAdd, f17, str]; done) | (simp [mkAct, upd, f17, str, *]; done)
                  · -- operation 19
                    obtain ⟨f16, f18, -⟩ := hp
                    replace f16 : u 16 = (uv nn) := f16
                    replace f18 : u 18 = (uv S.g) := f18
                    try simp only [f16, f18, str]
                    go_wp2
                    rw [u32_and_words, ← hp2.out]
                    refine stq_v rfl Same.refl ?_
                    first | (simp only [mkAct, List.foldl_cons, List.foldl_nil, List.setIfInBounds_toArray, List.set_cons_succ, List.set_cons_zero, upd, reduceIte, Nat.reduceEqDiff, Nat.reduceAdd, f16, f18, str]; done) | (simp [mkAct, upd, f16, f18, str, *]; done)
                  · -- operation 20
                    obtain ⟨f14, f19, -⟩ := hp
                    replace f14 : u 14 = (uv p1) := f14
                    replace f19 : u 19 = (uv p2) := f19
                    try simp only [f14, f19, str]
                    go_wp2
                    rw [u32_xor_words, ← hp3.out]
                    refine stq_v rfl Same.refl ?_
                    first | (simp only [mkAct, List.foldl_cons, List.foldl_nil, List.setIfInBounds_toArray, List.set_cons_succ, List.set_cons_zero, upd, reduceIte, Nat.reduceEqDiff, Nat.reduceAdd, f14, f19, str]; done) | (simp [mkAct, upd, f14, f19, str, *]; done)
                  · -- operation 21
                    obtain ⟨f10, f20, -⟩ := hp
                    replace f10 : u 10 = (uv q1) := f10
                    replace f20 : u 20 = (uv p3) := f20
                    try simp only [f10, f20, str]
                    go_wp2
                    rw [u32_add_words, ← hq2.out]
                    refine stq_v rfl Same.refl ?_
                    first | (simp only [mkAct, List.foldl_cons, List.foldl_nil, List.setIfInBounds_toArray, List.set_cons_succ, List.set_cons_zero, upd, reduceIte, Nat.reduceEqDiff, Nat.reduceAdd, f10, f20, str]; done) | (simp [mkAct, upd, f10, f20, str, *]; done)
                  · -- operation 22
                    go_wp2
                    refine stq_v rfl Same.refl ?_
                    first | (simp only [mkAct, List.foldl_cons, List.foldl_nil, List.setIfInBounds_toArray, List.set_cons_succ, List.set_cons_zero, upd, reduceIte, Nat.reduceEqDiff, Nat.reduceAdd, str]; done) | (simp [mkAct, upd, str, *]; done)
                  · -- operation 23
                    obtain ⟨f22, -, -⟩ := hp
                    replace f22 : u 22 = (.int .i64 (t : Int)) := f22
                    try simp only [f22, str]
                    go_wp2_with fail
                    refine (ck.out _).mono ?_
                    rintro e w1 ⟨rfl, hd⟩
                    go_wp2
                    refine stq_v rfl hd ?_
                    first | (simp only [mkAct, List.foldl_cons, List.foldl_nil, List.setIfInBounds_toArray, List.set_cons_succ, List.set_cons_zero, upd, reduceIte, Nat.reduceEqDiff, Nat.reduceAdd, f22, str]; done) | (simp [mkAct, upd, f22, str, *]; done)
                  · -- operation 24
                    obtain ⟨f21, f23, -⟩ := hp
                    replace f21 : u 21 = (uv q2) := f21
                    replace f23 : u 23 = (uv kt) := f23
                    try simp only [f21, f23, str]
                    go_wp2
                    rw [u32_add_words, ← hq3.out]
                    refine stq_v rfl Same.refl ?_
                    first | (simp only [mkAct, List.foldl_cons, List.foldl_nil, List.setIfInBounds_toArray, List.set_cons_succ, List.set_cons_zero, upd, reduceIte, Nat.reduceEqDiff, Nat.reduceAdd, f21, f23, str]; done) | (simp [mkAct, upd, f21, f23, str, *]; done)
                  · -- operation 25
                    go_wp2
                    refine stq_v rfl Same.refl ?_
                    first | (simp only [mkAct, List.foldl_cons, List.foldl_nil, List.setIfInBounds_toArray, List.set_cons_succ, List.set_cons_zero, upd, reduceIte, Nat.reduceEqDiff, Nat.reduceAdd, str]; done) | (simp [mkAct, upd, str, *]; done)
                  · -- operation 26
                    obtain ⟨f25, -⟩ := hp
                    replace f25 : u 25 = (.int .i64 (t : Int)) := f25
                    try simp only [f25, str]
                    have q1 : (t : Int) < 64 := by omega
                    have q0 : 0 ≤ (t : Int) := by omega
                    go_wp2
                    refine stq_v rfl Same.refl ?_
                    first | (simp only [mkAct, List.foldl_cons, List.foldl_nil, List.setIfInBounds_toArray, List.set_cons_succ, List.set_cons_zero, upd, reduceIte, Nat.reduceEqDiff, Nat.reduceAdd, f25, str]; done) | (simp [mkAct, upd, f25, str, *]; done)
                  · -- operation 27
                    obtain ⟨f26, -⟩ := hp
                    replace f26 : u 26 = (.pointer (some ⟨B5, t, none⟩)) := f26
                    try simp only [f26, str]
                    have cx := hI.cell cw.out
                    go_wp2
                    refine stq_v rfl Same.refl ?_
                    first | (simp only [mkAct, List.foldl_cons, List.foldl_nil, List.setIfInBounds_toArray, List.set_cons_succ, List.set_cons_zero, upd, reduceIte, Nat.reduceEqDiff, Nat.reduceAdd, f26, str]; done) | (simp [mkAct, upd, f26, str, *]; done)
                  · -- operation 28
                    obtain ⟨f24, f27, -⟩ := hp
                    replace f24 : u 24 = (uv q3) := f24
                    replace f27 : u 27 = (uv k) := f27
                    try simp only [f24, f27, str]
                    go_wp2
                    rw [u32_add_words, ← hq4.out]
                    refine stq_v rfl Same.refl ?_
                    first | (simp only [mkAct, List.foldl_cons, List.foldl_nil, List.setIfInBounds_toArray, List.set_cons_succ, List.set_cons_zero, upd, reduceIte, Nat.reduceEqDiff, Nat.reduceAdd, f24, f27, str]; done) | (simp [mkAct, upd, f24, f27, str, *]; done)
                · intro u wx hI hR
                  obtain ⟨r0, r1, r2, r3, r4, r5, r6, r7, r8, r9, r10, r11, r12, r13, r14, r15, r16, r17, r18, r19, r20, r21, r22, r23, r24, r25, r26, r27, r28, -⟩ := hR
                  replace r0 : u 0 = (.pointer (some ⟨BV, 7, none⟩)) := r0
                  replace r1 : u 1 = (uv S.h) := r1
                  replace r2 : u 2 = (uv S.e) := r2
                  replace r3 : u 3 = (uv T1) := r3
                  replace r4 : u 4 = (uv S.e) := r4
                  replace r5 : u 5 = (uv T2) := r5
                  replace r6 : u 6 = (uv X1) := r6
                  replace r7 : u 7 = (uv S.e) := r7
                  replace r8 : u 8 = (uv T3) := r8
                  replace r9 : u 9 = (uv T) := r9
                  replace r10 : u 10 = (uv q1) := r10
                  replace r11 : u 11 = (uv S.e) := r11
                  replace r12 : u 12 = (.pointer (some ⟨BV, 5, none⟩)) := r12
                  replace r13 : u 13 = (uv S.f) := r13
                  replace r14 : u 14 = (uv p1) := r14
                  replace r15 : u 15 = (uv S.e) := r15
                  replace r16 : u 16 = (uv nn) := r16
                  replace r17 : u 17 = (.pointer (some ⟨BV, 6, none⟩)) := r17
                  replace r18 : u 18 = (uv S.g) := r18
                  replace r19 : u 19 = (uv p2) := r19
                  replace r20 : u 20 = (uv p3) := r20
                  replace r21 : u 21 = (uv q2) := r21
                  replace r22 : u 22 = (.int .i64 (t : Int)) := r22
                  replace r23 : u 23 = (uv kt) := r23
                  replace r24 : u 24 = (uv q3) := r24
                  replace r25 : u 25 = (.int .i64 (t : Int)) := r25
                  replace r26 : u 26 = (.pointer (some ⟨B5, t, none⟩)) := r26
                  replace r27 : u 27 = (uv k) := r27
                  replace r28 : u 28 = (uv q4) := r28
                  simp only [mkAct, List.foldl_cons, List.foldl_nil, List.setIfInBounds_toArray, List.set_cons_succ, List.set_cons_zero]
                  try simp only [str, r0, r1, r2, r3, r4, r5, r6, r7, r8, r9, r10, r11, r12, r13, r14, r15, r16, r17, r18, r19, r20, r21, r22, r23, r24, r25, r26, r27, r28]
                  go_wp2_with fail
                  go_meet
                  exact ⟨rfl, hI⟩
                -- C]]
              case rest =>
                obtain ⟨rfl, hs18⟩ := hcut
                rename_i wy
                clear c1 c2 c3 ck
                replace v0 := hs18.cell v0
                replace v1 := hs18.cell v1
                replace v2 := hs18.cell v2
                replace v3 := hs18.cell v3
                replace v4 := hs18.cell v4
                replace v5 := hs18.cell v5
                replace v6 := hs18.cell v6
                replace v7 := hs18.cell v7
                go_upto_region 19 with fail
                go_cut [15] (fun v wx => v = uv y ∧ Same wc wx)
                case first =>
                  -- [[D
                  refine wp_region_last (by kernel_rfl) [(135, 0), (136, 1), (137, 2), (138, 3), (139, 4), (140, 5), (141, 6), (142, 7), (143, 8), (144, 9), (145, 10), (146, 11), (147, 12), (148, 13), (149, 14), (150, 15), (151, 16), (152, 17), (153, 18), (154, 19), (155, 20), (156, 21), (157, 22), (158, 23), (15, 24)] Same (Same _) [isV (uv S.a), isV (uv T5), isV (uv S.a), isV (uv T6), isV (uv X2), isV (uv S.a), isV (uv T7), isV (uv U), isV (uv S.a), isV (.pointer (some ⟨BV, 1, none⟩)), isV (uv S.b), isV (uv m1), isV (uv S.a), isV (.pointer (some ⟨BV, 2, none⟩)), isV (uv S.c), isV (uv m2), isV (uv m3), isV (.pointer (some ⟨BV, 1, none⟩)), isV (uv S.b), isV (.pointer (some ⟨BV, 2, none⟩)), isV (uv S.c), isV (uv m4), isV (uv m5), isV (uv y)] Same.refl.drew (fun _ _ h k => h.trans k) (by simp [isV_stable, isB_stable, isAny_stable]) (by decide) (l := [_, _, _, _, _, _, _, _, _, _, _, _, _, _, _, _, _, _, _, _, _, _, _, _]) rfl (by decide) (by decide) ?_ ?_
                  · refine ⟨?_, ?_, ?_, ?_, ?_, ?_, ?_, ?_, ?_, ?_, ?_, ?_, ?_, ?_, ?_, ?_, ?_, ?_, ?_, ?_, ?_, ?_, ?_, ?_, trivial⟩
                    all_goals (intro u wx hI hp; simp only [mkAct, List.foldl_cons, List.foldl_nil, List.setIfInBounds_toArray, List.set_cons_succ, List.set_cons_zero])
                    · -- operation 0
                      go_wp2
                      refine stq_v rfl Same.refl ?_
                      first | (simp only [mkAct, List.foldl_cons, List.foldl_nil, List.setIfInBounds_toArray, List.set_cons_succ, List.set_cons_zero, upd, reduceIte, Nat.reduceEqDiff, Nat.reduceAdd, str]; done) | (simp [mkAct, upd, str, *]; done)
                    · -- operation 1
                      obtain ⟨f0, -⟩ := hp
                      replace f0 : u 0 = (uv S.a) := f0
                      try simp only [f0, str]
                      go_wp2_with fail
                      refine (c5.out _).mono ?_
                      rintro e w1 ⟨rfl, hd⟩
                      go_wp2
                      refine stq_v rfl hd.same ?_
                      first | (simp only [mkAct, List.foldl_cons, List.foldl_nil, List.setIfInBounds_toArray, List.set_cons_succ, List.set_cons_zero, upd, reduceIte, Nat.reduceEqDiff, Nat.reduceAdd, f0, str]; done) | (simp [mkAct, upd, f0, str, *]; done)
                    · -- operation 2
                      go_wp2
                      refine stq_v rfl Same.refl ?_
                      first | (simp only [mkAct, List.foldl_cons, List.foldl_nil, List.setIfInBounds_toArray, List.set_cons_succ, List.set_cons_zero, upd, reduceIte, Nat.reduceEqDiff, Nat.reduceAdd, str]; done) | (simp [mkAct, upd, str, *]; done)
                    · -- operation 3
                      obtain ⟨f2, -, -⟩ := hp
                      replace f2 : u 2 = (uv S.a) := f2
                      try simp only [f2, str]
                      go_wp2_with fail
                      refine (c6.out _).mono ?_
                      rintro e w1 ⟨rfl, hd⟩
                      go_wp2
                      refine stq_v rfl hd.same ?_
                      first | (simp only [mkAct, List.foldl_cons, List.foldl_nil, List.setIfInBounds_toArray, List.set_cons_succ, List.set_cons_zero, upd, reduceIte, Nat.reduceEqDiff, Nat.reduceAdd, f2, str]; done) | (simp [mkAct, upd, f2, str, *]; done)
                    · -- operation 4
                      obtain ⟨f1, f3, -⟩ := hp
                      replace f1 : u 1 = (uv T5) := f1
                      replace f3 : u 3 = (uv T6) := f3
                      try simp only [f1, f3, str]
                      go_wp2
                      rw [u32_xor_words, ← hX2.out]
                      refine stq_v rfl Same.refl ?_
                      first | (simp only [mkAct, List.foldl_cons, List.foldl_nil, List.setIfInBounds_toArray, List.set_cons_succ, List.set_cons_zero, upd, reduceIte, Nat.reduceEqDiff, Nat.reduceAdd, f1, f3, str]; done) | (simp [mkAct, upd, f1, f3, str, *]; done)
                    · -- operation 5
                      go_wp2
                      refine stq_v rfl Same.refl ?_
                      first | (simp only [mkAct, List.foldl_cons, List.foldl_nil, List.setIfInBounds_toArray, List.set_cons_succ, List.set_cons_zero, upd, reduceIte, Nat.reduceEqDiff, Nat.reduceAdd, str]; done) | (simp [mkAct, upd, str, *]; done)
                    · -- operation 6
                      obtain ⟨f5, -, -⟩ := hp
                      replace f5 : u 5 = (uv S.a) := f5
                      try simp only [f5, str]
                      go_wp2_with fail
                      refine (c7.out _).mono ?_
                      rintro e w1 ⟨rfl, hd⟩
                      go_wp2
                      refine stq_v rfl hd.same ?_
                      first | (simp only [mkAct, List.foldl_cons, List.foldl_nil, List.setIfInBounds_toArray, List.set_cons_succ, List.set_cons_zero, upd, reduceIte, Nat.reduceEqDiff, Nat.reduceAdd, f5, str]; done) | (simp [mkAct, upd, f5, str, *]; done)
                    · -- operation 7
                      obtain ⟨f4, f6, -⟩ := hp
                      replace f4 : u 4 = (uv X2) := f4
                      replace f6 : u 6 = (uv T7) := f6
                      try simp only [f4, f6, str]
                      go_wp2
                      rw [u32_xor_words, ← hU.out]
                      refine stq_v rfl Same.refl ?_
                      first | (simp only [mkAct, List.foldl_cons, List.foldl_nil, List.setIfInBounds_toArray, List.set_cons_succ, List.set_cons_zero, upd, reduceIte, Nat.reduceEqDiff, Nat.reduceAdd, f4, f6, str]; done) | (simp [mkAct, upd, f4, f6, str, *]; done)
                    · -- operation 8
                      go_wp2
                      refine stq_v rfl Same.refl ?_
                      first | (simp only [mkAct, List.foldl_cons, List.foldl_nil, List.setIfInBounds_toArray, List.set_cons_succ, List.set_cons_zero, upd, reduceIte, Nat.reduceEqDiff, Nat.reduceAdd, str]; done) | (simp [mkAct, upd, str, *]; done)
                    · -- operation 9
                      go_wp2
                      refine stq_v rfl Same.refl ?_
                      first | (simp only [mkAct, List.foldl_cons, List.foldl_nil, List.setIfInBounds_toArray, List.set_cons_succ, List.set_cons_zero, upd, reduceIte, Nat.reduceEqDiff, Nat.reduceAdd, str]; done) | (simp [mkAct, upd, str, *]; done)
                    · -- operation 10
                      obtain ⟨f9, -⟩ := hp
                      replace f9 : u 9 = (.pointer (some ⟨BV, 1, none⟩)) := f9
                      try simp only [f9, str]
                      have cx := hI.cell v1
                      go_wp2
                      refine stq_v rfl Same.refl ?_
                      first | (simp only [mkAct, List.foldl_cons, List.foldl_nil, List.setIfInBounds_toArray, List.set_cons_succ, List.set_cons_zero, upd, reduceIte, Nat.reduceEqDiff, Nat.reduceAdd, f9, str]; done) | (simp [mkAct, upd, f9, str, *]; done)
                    · -- operation 11
                      obtain ⟨f8, f10, -⟩ := hp
                      replace f8 : u 8 = (uv S.a) := f8
                      replace f10 : u 10 = (uv S.b) := f10
                      try simp only [f8, f10, str]
                      go_wp2
                      rw [u32_and_words, ← hm1.out]
                      refine stq_v rfl Same.refl ?_
                      first | (simp only [mkAct, List.foldl_cons, List.foldl_nil, List.setIfInBounds_toArray, List.set_cons_succ, List.set_cons_zero, upd, reduceIte, Nat.reduceEqDiff, Nat.reduceAdd, f8, f10, str]; done) | (simp [mkAct, upd, f8, f10, str, *]; done)
                    · -- operation 12
                      go_wp2
                      refine stq_v rfl Same.refl ?_
                      first | (simp only [mkAct, List.foldl_cons, List.foldl_nil, List.setIfInBounds_toArray, List.set_cons_succ, List.set_cons_zero, upd, reduceIte, Nat.reduceEqDiff, Nat.reduceAdd, str]; done) | (simp [mkAct, upd, str, *]; done)
                    · -- operation 13
                      go_wp2
                      refine stq_v rfl Same.refl ?_
                      first | (simp only [mkAct, List.foldl_cons, List.foldl_nil, List.setIfInBounds_toArray, List.set_cons_succ, List.set_cons_zero, upd, reduceIte, Nat.reduceEqDiff, Nat.reduceAdd, str]; done) | (simp [mkAct, upd, str, *]; done)
                    · -- operation 14
                      obtain ⟨f13, -⟩ := hp
                      replace f13 : u 13 = (.pointer (some ⟨BV, 2, none⟩)) := f13
                      try simp only [f13, str]
                      have cx := hI.cell v2
                      go_wp2
                      refine stq_v rfl Same.refl ?_
                      first | (simp only [mkAct, List.foldl_cons, List.foldl_nil, List.setIfInBounds_toArray, List.set_cons_succ, List.set_cons_zero, upd, reduceIte, Nat.reduceEqDiff, Nat.reduceAdd, f13, str]; done) | (simp [mkAct, upd, f13, str, *]; done)
                    · -- operation 15
                      obtain ⟨f12, f14, -⟩ := hp
                      replace f12 : u 12 = (uv S.a) := f12
                      replace f14 : u 14 = (uv S.c) := f14
                      try simp only [f12, f14, str]
                      go_wp2
                      rw [u32_and_words, ← hm2.out]
                      refine stq_v rfl Same.refl ?_
                      first | (simp only [mkAct, List.foldl_cons, List.foldl_nil, List.setIfInBounds_toArray, List.set_cons_succ, List.set_cons_zero, upd, reduceIte, Nat.reduceEqDiff, Nat.reduceAdd, f12, f14, str]; done) | (simp [mkAct, upd, f12, f14, str, *]; done)
                    · -- operation 16
                      obtain ⟨f11, f15, -⟩ := hp
                      replace f11 : u 11 = (uv m1) := f11
                      replace f15 : u 15 = (uv m2) := f15
                      try simp only [f11, f15, str]
                      go_wp2
                      rw [u32_xor_words, ← hm3.out]
                      refine stq_v rfl Same.refl ?_
                      first | (simp only [mkAct, List.foldl_cons, List.foldl_nil, List.setIfInBounds_toArray, List.set_cons_succ, List.set_cons_zero, upd, reduceIte, Nat.reduceEqDiff, Nat.reduceAdd, f11, f15, str]; done) | (simp [mkAct, upd, f11, f15, str, *]; done)
                    · -- operation 17
                      go_wp2
                      refine stq_v rfl Same.refl ?_
                      first | (simp only [mkAct, List.foldl_cons, List.foldl_nil, List.setIfInBounds_toArray, List.set_cons_succ, List.set_cons_zero, upd, reduceIte, Nat.reduceEqDiff, Nat.reduceAdd, str]; done) | (simp [mkAct, upd, str, *]; done)
                    · -- operation 18
                      obtain ⟨f17, -⟩ := hp
                      replace f17 : u 17 = (.pointer (some ⟨BV, 1, none⟩)) := f17
                      try simp only [f17, str]
                      have cx := hI.cell v1
                      go_wp2
                      refine stq_v rfl Same.refl ?_
                      first | (simp only [mkAct, List.foldl_cons, List.foldl_nil, List.setIfInBounds_toArray, List.set_cons_succ, List.set_cons_zero, upd, reduceIte, Nat.reduceEqDiff, Nat.reduceAdd, f17, str]; done) | (simp [mkAct, upd, f17, str, *]; done)
                    · -- operation 19
                      go_wp2
                      refine stq_v rfl Same.refl ?_
                      first | (simp only [mkAct, List.foldl_cons, List.foldl_nil, List.setIfInBounds_toArray, List.set_cons_succ, List.set_cons_zero, upd, reduceIte, Nat.reduceEqDiff, Nat.reduceAdd, str]; done) | (simp [mkAct, upd, str, *]; done)
                    · -- operation 20
                      obtain ⟨f19, -⟩ := hp
                      replace f19 : u 19 = (.pointer (some ⟨BV, 2, none⟩)) := f19
                      try simp only [f19, str]
                      have cx := hI.cell v2
                      go_wp2
                      refine stq_v rfl Same.refl ?_
                      first | (simp only [mkAct, List.foldl_cons, List.foldl_nil, List.setIfInBounds_toArray, List.set_cons_succ, List.set_cons_zero, upd, reduceIte, Nat.reduceEqDiff, Nat.reduceAdd, f19, str]; done) | (simp [mkAct, upd, f19, str, *]; done)
                    · -- operation 21
                      obtain ⟨f18, f20, -⟩ := hp
                      replace f18 : u 18 = (uv S.b) := f18
                      replace f20 : u 20 = (uv S.c) := f20
                      try simp only [f18, f20, str]
                      go_wp2
                      rw [u32_and_words, ← hm4.out]
                      refine stq_v rfl Same.refl ?_
                      first | (simp only [mkAct, List.foldl_cons, List.foldl_nil, List.setIfInBounds_toArray, List.set_cons_succ, List.set_cons_zero, upd, reduceIte, Nat.reduceEqDiff, Nat.reduceAdd, f18, f20, str]; done) | (simp [mkAct, upd, f18, f20, str, *]; done)
                    · -- operation 22
                      obtain ⟨f16, f21, -⟩ := hp
                      replace f16 : u 16 = (uv m3) := f16
                      replace f21 : u 21 = (uv m4) := f21
                      try simp only [f16, f21, str]
                      go_wp2
                      rw [u32_xor_words, ← hm5.out]
                      refine stq_v rfl Same.refl ?_
                      first | (simp only [mkAct, List.foldl_cons, List.foldl_nil, List.setIfInBounds_toArray, List.set_cons_succ, List.set_cons_zero, upd, reduceIte, Nat.reduceEqDiff, Nat.reduceAdd, f16, f21, str]; done) | (simp [mkAct, upd, f16, f21, str, *]; done)
                    · -- operation 23
                      obtain ⟨f7, f22, -⟩ := hp
                      replace f7 : u 7 = (uv U) := f7
                      replace f22 : u 22 = (uv m5) := f22
                      try simp only [f7, f22, str]
                      go_wp2
                      rw [u32_add_words, ← hy.out]
                      refine stq_v rfl Same.refl ?_
                      first | (simp only [mkAct, List.foldl_cons, List.foldl_nil, List.setIfInBounds_toArray, List.set_cons_succ, List.set_cons_zero, upd, reduceIte, Nat.reduceEqDiff, Nat.reduceAdd, f7, f22, str]; done) | (simp [mkAct, upd, f7, f22, str, *]; done)
                  · intro u wx hI hR
                    obtain ⟨r0, r1, r2, r3, r4, r5, r6, r7, r8, r9, r10, r11, r12, r13, r14, r15, r16, r17, r18, r19, r20, r21, r22, r23, -⟩ := hR
                    replace r0 : u 0 = (uv S.a) := r0
                    replace r1 : u 1 = (uv T5) := r1
                    replace r2 : u 2 = (uv S.a) := r2
                    replace r3 : u 3 = (uv T6) := r3
                    replace r4 : u 4 = (uv X2) := r4
                    replace r5 : u 5 = (uv S.a) := r5
                    replace r6 : u 6 = (uv T7) := r6
                    replace r7 : u 7 = (uv U) := r7
                    replace r8 : u 8 = (uv S.a) := r8
                    replace r9 : u 9 = (.pointer (some ⟨BV, 1, none⟩)) := r9
                    replace r10 : u 10 = (uv S.b) := r10
                    replace r11 : u 11 = (uv m1) := r11
                    replace r12 : u 12 = (uv S.a) := r12
                    replace r13 : u 13 = (.pointer (some ⟨BV, 2, none⟩)) := r13
                    replace r14 : u 14 = (uv S.c) := r14
                    replace r15 : u 15 = (uv m2) := r15
                    replace r16 : u 16 = (uv m3) := r16
                    replace r17 : u 17 = (.pointer (some ⟨BV, 1, none⟩)) := r17
                    replace r18 : u 18 = (uv S.b) := r18
                    replace r19 : u 19 = (.pointer (some ⟨BV, 2, none⟩)) := r19
                    replace r20 : u 20 = (uv S.c) := r20
                    replace r21 : u 21 = (uv m4) := r21
                    replace r22 : u 22 = (uv m5) := r22
                    replace r23 : u 23 = (uv y) := r23
                    simp only [mkAct, List.foldl_cons, List.foldl_nil, List.setIfInBounds_toArray, List.set_cons_succ, List.set_cons_zero]
                    try simp only [str, r0, r1, r2, r3, r4, r5, r6, r7, r8, r9, r10, r11, r12, r13, r14, r15, r16, r17, r18, r19, r20, r21, r22, r23]
                    go_wp2_with fail
                    go_meet
                    exact ⟨rfl, hI⟩
                  -- D]]
                case rest =>
                  obtain ⟨rfl, hs19⟩ := hcut
                  rename_i wd
                  clear c5 c6 c7
                  replace v0 := hs19.cell v0
                  replace v1 := hs19.cell v1
                  replace v2 := hs19.cell v2
                  replace v3 := hs19.cell v3
                  replace v4 := hs19.cell v4
                  replace v5 := hs19.cell v5
                  replace v6 := hs19.cell v6
                  replace v7 := hs19.cell v7
                  have hbd := ((hs18.trans hs19).block _ hBVl).trans hbv.out
                  replace hbd := Lib.hid hbd
                  have i8 : (Try.prog.info? 214).map (·.size) = some 8 := by kernel_rfl
                  replace i8 := Lib.hid i8
                  go_wp2_with (refine store_row rfl _ _ _ rfl BV _ rfl rfl _ _ hbd.out i8.out rfl (by simp [Value.oneCell']) ?_; intro w7 hb7 hk7)
                  go_roundw
                  case rel =>
                    have z1e : Value.int .u32 (((q4.toNat : Int) + (y.toNat : Int)) % 4294967296) = uv z1 := by rw [hz1.out]; exact congrArg (Value.int .u32) (u32_add_words _ _)
                    have z2e : Value.int .u32 (((S.d.toNat : Int) + (q4.toNat : Int)) % 4294967296) = uv z2 := by rw [hz2.out]; exact congrArg (Value.int .u32) (u32_add_words _ _)
                    refine ⟨t + 1, by omega, by go_num, ?_, (hk.out.trans (Keep.of_same (p := (· = BV)) (hs18.trans hs19)) (fun _ _ h => h)).trans hk7 (fun _ _ h => h)⟩
                    rw [hstep.out, hst.out, hb7, z1e, z2e]
                    rfl
                  case measure => simp [intOf]; omega
            · obtain rfl : t = 64 := by omega
              rw [show ((64 : Nat) : Int) = 64 from rfl]
              obtain ⟨S, hS⟩ : ∃ S, S = s.run W 64 := ⟨_, rfl⟩
              rw [← hS] at hbv hbk2
              have hbh := (hk.block _ (blk_lt hbh'.out) (by omega)).trans hbh'.out
              have hbr := (hk.block _ (blk_lt hbr'.out) (by omega)).trans hbr'.out
              have hs8 : Same w wr := hs7.out.keep hk (fun x hx hv => by omega)
              have hB2w := hB2.out
              rw [← half_none s S] at hbh
              clear hS hlt ht hk hcons hror hbh' hbr' hb7 hs7
              replace hbv := Lib.hid hbv
              replace hbh := Lib.hid hbh
              replace hbr := Lib.hid hbr
              replace hs8 := Lib.hid hs8
              replace hB2w := Lib.hid hB2w
              go_wp2
              go_loopw [16] (fun i wx => ∃ k : Nat, k ≤ 8 ∧ i = .int .i64 k ∧ wx.heap[B2]? = some (.cells (uvs (half s S k)).toArray 214 (0, 0)) ∧ Keep (· = B2) wr wx) (fun i _ => 8 - (intOf i).toNat)
              case atStart => exact ⟨0, by omega, rfl, hbh.out, Keep.refl⟩
              case round =>
                obtain ⟨k, hk8, rfl, hbk, hkk⟩ := hrel
                by_cases hlt : k < 8
                · have cv := (blk_cell ((hkk.block BV (blk_lt hbv.out) (by omega)).trans hbv.out) k).trans (uvs_get (l := S.list) (by rw [list_len]; exact hlt))
                  have ch := (blk_cell hbk k).trans (uvs_get (by rw [half_length s S k hk8]; exact hlt))
                  rw [half_get s S k hlt] at ch
                  have fh := blk_frozen hbk k
                  have hset := half_set s S k hlt
                  obtain ⟨x, hx⟩ : ∃ x, x = s.list.getD k 0 := ⟨_, rfl⟩
                  obtain ⟨z, hz⟩ : ∃ z, z = S.list.getD k 0 := ⟨_, rfl⟩
                  rw [← hx] at ch hset
                  rw [← hz] at cv hset
                  have hadd := u32_add_words x z
                  have q0 : 0 ≤ (k : Int) := by omega
                  have q1 : (k : Int) < 8 := by omega
                  replace hadd := Lib.hid hadd
                  clear hx hz
                  replace hset := Lib.hid hset
                  replace hkk := Lib.hid hkk
                  replace hbk := Lib.hid hbk
                  go_wp2
                  go_still_tail 8, (by kernel_rfl)
                  change wpList _ _ _ _ _ (World.drew _)
                  go_wp2
                  go_roundw
                  case rel =>
                    have hk2 : Keep (· = B2) wr (wr.setCell ⟨B2, k, none⟩ (.int .u32 (((x.toNat : Int) + (z.toNat : Int)) % 4294967296))).drew :=
                      (Keep.setCell (p := (· = B2)) _ rfl).trans (Keep.drew (p := (· = B2))) (fun _ _ h => h)
                    refine ⟨k + 1, by omega, by go_num, ?_, hkk.out.trans hk2 (fun _ _ h => h)⟩
                    rw [← hset.out]
                    refine (blk_set hbk.out).trans ?_
                    rw [hadd.out]
                    have e : (uvs (half s S k)).toArray.setIfInBounds k (uv (x + z)) = (uvs ((half s S k).set k (x + z))).toArray := by simp [uvs, List.map_set]
                    rw [← e]
                  case measure => simp [intOf]; omega
                · obtain rfl : k = 8 := by omega
                  rw [half_all, ← hbk2.out] at hbk
                  have hinf2 := Lib.hid (uvs_info (Sha.block s l))
                  have hbr2 := (hkk.block _ (blk_lt hbr.out) (by omega)).trans hbr.out
                  have hs9 := hs8.out.keep hkk (fun x hx hv => by have := hB2w.out; omega)
                  have hle : w.heap.size ≤ B4 := by have := hB2w.out; omega
                  clear hkk
                  replace hbk := Lib.hid hbk
                  replace hbr2 := Lib.hid hbr2
                  replace hs9 := Lib.hid hs9
                  go_wp2_with (first | (refine load_row rfl _ _ rfl B2 rfl _ _ _ _ hbk.out Try.underlying214 rfl hinf2.out ?_) | (refine store_row rfl _ _ _ rfl B4 _ rfl rfl _ _ hbr2.out hinf2.out (by rw [List.size_toArray, List.size_toArray, uvs_length, uvs_length, list_len]; rfl) (uvs_all _) ?_; intro w9 hb9 hk9; replace hb9 := Lib.hid hb9; replace hk9 := Lib.hid hk9))
                  refine bodyPost_ret (v := .agg (uvs (Sha.block s l).list).toArray) (results_row (p := 4) (ty := 214) rfl _ _ B4 _ _ _ _ rfl hb9.out Try.underlying214 rfl hinf2.out) rfl ?_
                  exact ⟨rfl, hs9.out.keep hk9.out (fun x hx hv => by omega)⟩
end Go.Proofs.Ytmacgmmjgdmleaa
