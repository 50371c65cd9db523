/-
  The digest's block: the stream's words and the bytes that wait.
-/
import Derived.Test.YtmacgmmjgdmleaaSha2
import Derived.Deep.MidRow
namespace Go.Proofs.Ytmacgmmjgdmleaa
open Go Go.RowKit
set_option linter.unusedSimpArgs false
set_option linter.unusedVariables false

/-- The stream's cells. -/
def stm (s : List UInt32) (wait : List UInt8) (n : Int) : List Value := uvs s ++ (bv wait ++ [.int .i64 n])
theorem stm_h {s : List UInt32} {wait : List UInt8} {n : Int} (h : s.length = 8) {j : Nat} (hj : j < 8) : (stm s wait n).toArray[j]? = some (uv (s.getD j 0)) := by
  have := uvs_get (l := s) (j := j) (by omega)
  simp only [List.getElem?_toArray] at this ⊢
  rw [stm, List.getElem?_append_left (by rw [uvs_length]; omega), this]
theorem stm_n {s : List UInt32} {wait : List UInt8} {n : Int} (h : s.length = 8) (hw : wait.length = 64) : (stm s wait n).toArray[72]? = some (.int .i64 n) := by
  simp only [List.getElem?_toArray]
  rw [stm, List.getElem?_append_right (by rw [uvs_length]; omega), List.getElem?_append_right (by rw [uvs_length, bv_length]; omega), uvs_length, bv_length, h, hw]
  rfl
theorem stm_wait {w : World} {sb : Nat} {T : TypeId} {s : List UInt32} {wait : List UInt8} {n : Int} (h : s.length = 8) (hb : w.heap[sb]? = some (.cells (stm s wait n).toArray T (0, 0))) : w.rangeAt sb 8 (bv wait) := by
  intro j v hj
  have hlt := (List.getElem?_eq_some_iff.1 hj).1
  rw [blk_cell hb]
  simp only [List.getElem?_toArray]
  rw [stm, List.getElem?_append_right (by rw [uvs_length]; omega), uvs_length, h, show 8 + j - 8 = j from by omega, List.getElem?_append_left hlt]
  exact hj
theorem stm_set {s : List UInt32} {wait : List UInt8} {n : Int} {j : Nat} (x : UInt32) (hj : j < s.length) : (stm s wait n).toArray.setIfInBounds j (uv x) = (stm (s.set j x) wait n).toArray := by
  simp only [List.setIfInBounds_toArray, stm]
  rw [List.set_append_left _ _ (by rw [uvs_length]; omega)]
  simp [uvs, List.map_set]
theorem stm_set_n {s : List UInt32} {wait : List UInt8} {n m : Int} (h : s.length = 8) (hw : wait.length = 64) : (stm s wait n).toArray.setIfInBounds 72 (.int .i64 m) = (stm s wait m).toArray := by
  simp only [List.setIfInBounds_toArray, stm]
  rw [List.set_append_right _ _ (by rw [uvs_length]; omega), List.set_append_right _ _ (by rw [uvs_length, bv_length]; omega), uvs_length, bv_length, h, hw]
  rfl
/-- The first k words added. -/
def half (s t : Sha.S8) (k : Nat) : List UInt32 := (s.add t).list.take k ++ s.list.drop k
theorem half_length (s t : Sha.S8) (k : Nat) (h : k ≤ 8) : (half s t k).length = 8 := by simp [half, Sha.S8.list]; omega
theorem half_get (s t : Sha.S8) : ∀ k, k < 8 → (half s t k).getD k 0 = s.list.getD k 0 := by
  intro k hk
  rcases k with _ | _ | _ | _ | _ | _ | _ | _ | k <;> first | rfl | omega
theorem half_set (s t : Sha.S8) : ∀ k, k < 8 → (half s t k).set k (s.list.getD k 0 + t.list.getD k 0) = half s t (k + 1) := by
  intro k hk
  rcases k with _ | _ | _ | _ | _ | _ | _ | _ | k <;> first | rfl | omega
theorem half_all (s t : Sha.S8) : half s t 8 = (s.add t).list := rfl
theorem half_none (s t : Sha.S8) : half s t 0 = s.list := rfl
theorem list_index (s : Sha.S8) : ∀ k : Nat, k < 8 → ∀ w : World, (Instr.index 214 (.agg #[uv s.a, uv s.b, uv s.c, uv s.d, uv s.e, uv s.f, uv s.g, uv s.h]) (.int .i64 (k : Int))).run Try.prog w = .ok (uv (s.list.getD k 0)) w := by
  intro k hk
  rcases k with _ | _ | _ | _ | _ | _ | _ | _ | k <;> first | omega | (intro w; kernel_rfl)
theorem list_len (s : Sha.S8) : s.list.length = 8 := rfl
theorem u32_not_words (x : UInt32) : bits BinOp.xor .u32 IntKind.u32.max (x.toNat : Int) = ((~~~ x).toNat : Int) := by
  have h : IntKind.u32.max = ((-1 : UInt32).toNat : Int) := by decide
  rw [h, u32_xor_words, UInt32.neg_one_xor]
section
variable {P : Program} {ops : Array Oper} {rest : List Oper} {o : Oper} {a : Act} {Q : Exit → Act → World → Prop}
/-- A whole value loaded out of the middle of a block. -/
theorem load_mid {W : World} (hg : Region.wanted o (yielded ops a.tmps) = true) (ty : TypeId) (x : Operand) (ho : o.op = .load ty x)
    (b j : Nat) (hx : a.eval x = .pointer (some ⟨b, j, none⟩)) (cs : List Value) (d : TypeDesc) (hc : W.rangeAt b j cs)
    (hu : P.underlying ty = some d) (hd : d.isRow = true) (hi : (P.info? ty).map (·.size) = some cs.length)
    (h : wpList P ops Q rest (a.put o.dst (.agg cs.toArray)) W) : wpList P ops Q (o :: rest) a W :=
  wpL hg fun K hK => wp_load_mid ty x ho b j hx cs d hc hu hd hi (hK _ _ h)
end
set_option maxRecDepth 100000 in
set_option maxHeartbeats 1600000 in
theorem block_any (sb : Nat) (s : Sha.S8) (wait : List UInt8) (n : Int) (w : World) (hw : wait.length = 64)
    (hb : w.heap[sb]? = some (.cells (stm s.list wait n).toArray 254 (0, 0))) :
    Calls Try.prog 195 #[.pointer (some ⟨sb, 0, none⟩)] w fun e w' => e = .returned (.tuple #[]) ∧ w'.heap[sb]? = some (.cells (stm (Sha.block s wait).list wait n).toArray 254 (0, 0)) ∧ Keep (· = sb) w w' := by
  have hwords := Lib.hid (words_any wait hw)
  have hturns := Lib.hid turns_any
  have hround := Lib.hid round_any
  have hr := stm_wait (list_len s) hb
  have hi : (Try.prog.info? 252).map (·.size) = some (bv wait).length := by
    rw [bv_length, hw]
    kernel_rfl
  have hsb := blk_lt hb
  replace hi := Lib.hid hi
  replace hr := Lib.hid hr
  replace hb := Lib.hid hb
  go_enter Try.func195, Try.ntmps195
  go_wp2_with (first | fail | (refine load_mid rfl _ _ rfl sb 8 rfl (bv wait) _ hr.out Try.underlying252 rfl hi.out ?_))
  refine (hwords.out _).mono ?_
  rintro e w1 ⟨rfl, hs1⟩
  have hb1 := (hs1.block sb hsb).trans hb.out
  have hbw : (w1.alloc (.cells (Array.replicate 64 (.int .u32 0)) 244)).heap[w1.heap.size]? = some (.cells (Array.replicate 64 (.int .u32 0)) 244 (0, 0)) := heap_alloc_new _ _
  replace hbw := Lib.hid hbw
  have hi2 : (Try.prog.info? 244).map (·.size) = some (uvs (Sha.words wait)).toArray.size := by
    rw [List.size_toArray, uvs_length, Sha.words_length]
    kernel_rfl
  replace hi2 := Lib.hid hi2
  have hsb1 := blk_lt hb1
  replace hb1 := Lib.hid hb1
  go_wp2_with (first | fail | (refine store_row rfl _ _ _ rfl w1.heap.size _ rfl rfl _ _ hbw.out hi2.out (by simp [uvs_length, Sha.words_length]) (uvs_all _) ?_; intro w2 hb2 hk2))
  have hs2 : Same w w2 := (hs1.alloc _).keep hk2 (fun x hx hv => by have := hs1.size; omega)
  have hb2s := (hs2.block sb hsb).trans hb.out
  have c0 : w2.cell? ⟨sb, 0, none⟩ = some (uv s.a) := (blk_cell hb2s 0).trans (stm_h (list_len s) (by omega))
  have c1 : w2.cell? ⟨sb, 1, none⟩ = some (uv s.b) := (blk_cell hb2s 1).trans (stm_h (list_len s) (by omega))
  have c2 : w2.cell? ⟨sb, 2, none⟩ = some (uv s.c) := (blk_cell hb2s 2).trans (stm_h (list_len s) (by omega))
  have c3 : w2.cell? ⟨sb, 3, none⟩ = some (uv s.d) := (blk_cell hb2s 3).trans (stm_h (list_len s) (by omega))
  have c4 : w2.cell? ⟨sb, 4, none⟩ = some (uv s.e) := (blk_cell hb2s 4).trans (stm_h (list_len s) (by omega))
  have c5 : w2.cell? ⟨sb, 5, none⟩ = some (uv s.f) := (blk_cell hb2s 5).trans (stm_h (list_len s) (by omega))
  have c6 : w2.cell? ⟨sb, 6, none⟩ = some (uv s.g) := (blk_cell hb2s 6).trans (stm_h (list_len s) (by omega))
  have c7 : w2.cell? ⟨sb, 7, none⟩ = some (uv s.h) := (blk_cell hb2s 7).trans (stm_h (list_len s) (by omega))
  have hbwlt := blk_lt hb2
  replace hb2 := Lib.hid hb2
  replace hb2s := Lib.hid hb2s
  replace hk2 := Lib.hid hk2
  replace hs2 := Lib.hid hs2
  replace hs1 := Lib.hid hs1
  obtain ⟨bw, ebw⟩ : ∃ bw, bw = w1.heap.size := ⟨_, rfl⟩
  rw [← ebw] at hb2 hbwlt
  go_wp2
  rw [← ebw]
  clear hk2 ebw
  go_quiet (fail)
  clear c0 c1 c2 c3 c4 c5 c6 c7
  go_wp2
  go_loopw [3, 4, 5, 6, 7, 8, 9, 10, 61] (fun v3 v4 v5 v6 v7 v8 v9 v10 i wr => ∃ t : Nat, t ≤ 64 ∧ i = .int .i64 t ∧ v3 = uv (s.run (Sha.words wait) t).a ∧ v4 = uv (s.run (Sha.words wait) t).b ∧ v5 = uv (s.run (Sha.words wait) t).c ∧ v6 = uv (s.run (Sha.words wait) t).d ∧ v7 = uv (s.run (Sha.words wait) t).e ∧ v8 = uv (s.run (Sha.words wait) t).f ∧ v9 = uv (s.run (Sha.words wait) t).g ∧ v10 = uv (s.run (Sha.words wait) t).h ∧ Same w2 wr) (fun _ _ _ _ _ _ _ _ i _ => 64 - (intOf i).toNat)
  case atStart => exact ⟨0, by omega, rfl, by rw [Sha.run_zero], by rw [Sha.run_zero], by rw [Sha.run_zero], by rw [Sha.run_zero], by rw [Sha.run_zero], by rw [Sha.run_zero], by rw [Sha.run_zero], by rw [Sha.run_zero], Same.refl.drewN _⟩
  case round =>
    obtain ⟨t, ht, rfl, rfl, rfl, rfl, rfl, rfl, rfl, rfl, rfl, hs⟩ := hrel
    by_cases hlt : t < 64
    · have hstep := Sha.run_succ s (Sha.words wait) t
      obtain ⟨S, hS⟩ : ∃ S, S = s.run (Sha.words wait) t := ⟨_, rfl⟩
      rw [← hS] at hstep
      rw [← hS]
      have cw := (blk_cell ((hs.block bw hbwlt).trans hb2.out) t).trans (uvs_get (by rw [Sha.words_length]; exact hlt))
      obtain ⟨k, hk⟩ : ∃ k, k = (Sha.words wait).getD t 0 := ⟨_, rfl⟩
      rw [← hk] at cw hstep
      clear hS hk
      replace hstep := Lib.hid hstep
      replace cw := Lib.hid cw
      replace hs := Lib.hid hs
      go_wp2
      obtain ⟨p1, hp1⟩ : ∃ m, m = S.e &&& S.f := ⟨_, rfl⟩
      obtain ⟨nn, hnn⟩ : ∃ m, m = ~~~ S.e := ⟨_, rfl⟩
      obtain ⟨p2, hp2⟩ : ∃ m, m = nn &&& S.g := ⟨_, rfl⟩
      obtain ⟨p3, hp3⟩ : ∃ m, m = p1 ^^^ p2 := ⟨_, rfl⟩
      obtain ⟨T, hT⟩ : ∃ m, m = Sha.turns S.e 6 11 25 := ⟨_, rfl⟩
      obtain ⟨q1, hq1⟩ : ∃ m, m = S.h + T := ⟨_, rfl⟩
      obtain ⟨q2, hq2⟩ : ∃ m, m = q1 + p3 := ⟨_, rfl⟩
      obtain ⟨kt, hkt⟩ : ∃ m, m = Sha.kAt t := ⟨_, rfl⟩
      obtain ⟨q3, hq3⟩ : ∃ m, m = q2 + kt := ⟨_, rfl⟩
      obtain ⟨q4, hq4⟩ : ∃ m, m = q3 + k := ⟨_, rfl⟩
      have hx : S.x (Sha.kAt t) k = q4 := by rw [hq4, hq3, hq2, hq1, hp3, hp2, hp1, hnn, hT, hkt]; rfl
      have hTc : ∀ w, Calls Try.prog 199 #[uv S.e, .int .i64 6, .int .i64 11, .int .i64 25] w fun e w' => e = .returned (uv T) ∧ w = w' := fun w => by rw [hT]; exact hturns.out S.e 6 11 25 w (by omega) (by omega) (by omega)
      have hkc : ∀ w, Calls Try.prog 200 #[.int .i64 t] w fun e w' => e = .returned (uv kt) ∧ Same w w' := fun w => by rw [hkt]; exact hround.out t w hlt
      replace hp1 := Lib.hid hp1
      replace hnn := Lib.hid hnn
      replace hp2 := Lib.hid hp2
      replace hp3 := Lib.hid hp3
      replace hT := Lib.hid hT
      replace hq1 := Lib.hid hq1
      replace hq2 := Lib.hid hq2
      replace hkt := Lib.hid hkt
      replace hq3 := Lib.hid hq3
      replace hq4 := Lib.hid hq4
      replace hx := Lib.hid hx
      replace hTc := Lib.hid hTc
      replace hkc := Lib.hid hkc
      refine wp_region_last (by kernel_rfl) [(64, 0), (65, 1), (66, 2), (67, 3), (68, 4), (69, 5), (70, 6), (71, 7), (72, 8), (73, 9), (74, 10), (75, 11), (76, 12), (77, 13), (78, 14), (79, 15), (80, 16), (81, 17), (82, 18), (83, 19), (12, 20)] Same (Same wr) [isV (uv S.h), isV (uv S.e), isV (uv T), isV (uv q1), isV (uv S.e), isV (uv S.f), isV (uv p1), isV (uv S.e), isV (uv nn), isV (uv S.g), isV (uv p2), isV (uv p3), isV (uv q2), isV (.int .i64 (t : Int)), isV (uv kt), isV (uv q3), isV (.int .i64 (t : Int)), isV (.pointer (some ⟨bw, t, none⟩)), isV (uv k), isV (uv q4)] Same.refl.drew (fun _ _ h k => h.trans k) (by simp [isV_stable, isB_stable, isAny_stable]) (by decide) (l := [_, _, _, _, _, _, _, _, _, _, _, _, _, _, _, _, _, _, _, _]) rfl (by decide) (by decide) ?_ ?_
      · refine ⟨?_, ?_, ?_, ?_, ?_, ?_, ?_, ?_, ?_, ?_, ?_, ?_, ?_, ?_, ?_, ?_, ?_, ?_, ?_, ?_, trivial⟩
        all_goals (intro u wx hI hp; simp only [mkAct, List.foldl_cons, List.foldl_nil, List.setIfInBounds_toArray, List.set_cons_succ, List.set_cons_zero])
        · -- operation 0
          go_wp2
          refine stq_v rfl Same.refl ?_
          first | (simp only [mkAct, List.foldl_cons, List.foldl_nil, List.setIfInBounds_toArray, List.set_cons_succ, List.set_cons_zero, upd, reduceIte, Nat.reduceEqDiff, Nat.reduceAdd, str]; done) | (simp [mkAct, upd, str, *]; done)
        · -- operation 1
          go_wp2
          refine stq_v rfl Same.refl ?_
          first | (simp only [mkAct, List.foldl_cons, List.foldl_nil, List.setIfInBounds_toArray, List.set_cons_succ, List.set_cons_zero, upd, reduceIte, Nat.reduceEqDiff, Nat.reduceAdd, str]; done) | (simp [mkAct, upd, str, *]; done)
        · -- operation 2
          obtain ⟨f1, -⟩ := hp
          replace f1 : u 1 = (uv S.e) := f1
          try simp only [f1, str]
          go_wp2_with fail
          refine (hTc.out _).mono ?_
          rintro e w1 ⟨rfl, rfl⟩
          go_wp2
          refine stq_v rfl Same.refl ?_
          first | (simp only [mkAct, List.foldl_cons, List.foldl_nil, List.setIfInBounds_toArray, List.set_cons_succ, List.set_cons_zero, upd, reduceIte, Nat.reduceEqDiff, Nat.reduceAdd, f1, str]; done) | (simp [mkAct, upd, f1, str, *]; done)
        · -- operation 3
          obtain ⟨f0, f2, -⟩ := hp
          replace f0 : u 0 = (uv S.h) := f0
          replace f2 : u 2 = (uv T) := f2
          try simp only [f0, f2, str]
          go_wp2
          rw [u32_add_words, ← hq1.out]
          refine stq_v rfl Same.refl ?_
          first | (simp only [mkAct, List.foldl_cons, List.foldl_nil, List.setIfInBounds_toArray, List.set_cons_succ, List.set_cons_zero, upd, reduceIte, Nat.reduceEqDiff, Nat.reduceAdd, f0, f2, str]; done) | (simp [mkAct, upd, f0, f2, str, *]; done)
        · -- operation 4
          go_wp2
          refine stq_v rfl Same.refl ?_
          first | (simp only [mkAct, List.foldl_cons, List.foldl_nil, List.setIfInBounds_toArray, List.set_cons_succ, List.set_cons_zero, upd, reduceIte, Nat.reduceEqDiff, Nat.reduceAdd, str]; done) | (simp [mkAct, upd, str, *]; done)
        · -- operation 5
          go_wp2
          refine stq_v rfl Same.refl ?_
          first | (simp only [mkAct, List.foldl_cons, List.foldl_nil, List.setIfInBounds_toArray, List.set_cons_succ, List.set_cons_zero, upd, reduceIte, Nat.reduceEqDiff, Nat.reduceAdd, str]; done) | (simp [mkAct, upd, str, *]; done)
        · -- operation 6
          obtain ⟨f4, f5, -⟩ := hp
          replace f4 : u 4 = (uv S.e) := f4
          replace f5 : u 5 = (uv S.f) := f5
          try simp only [f4, f5, str]
          go_wp2
          rw [u32_and_words, ← hp1.out]
          refine stq_v rfl Same.refl ?_
          first | (simp only [mkAct, List.foldl_cons, List.foldl_nil, List.setIfInBounds_toArray, List.set_cons_succ, List.set_cons_zero, upd, reduceIte, Nat.reduceEqDiff, Nat.reduceAdd, f4, f5, str]; done) | (simp [mkAct, upd, f4, f5, str, *]; done)
        · -- operation 7
          go_wp2
          refine stq_v rfl Same.refl ?_
          first | (simp only [mkAct, List.foldl_cons, List.foldl_nil, List.setIfInBounds_toArray, List.set_cons_succ, List.set_cons_zero, upd, reduceIte, Nat.reduceEqDiff, Nat.reduceAdd, str]; done) | (simp [mkAct, upd, str, *]; done)
        · -- operation 8
          obtain ⟨f7, -⟩ := hp
          replace f7 : u 7 = (uv S.e) := f7
          try simp only [f7, str]
          go_wp2
          rw [u32_not_words, ← hnn.out]
          refine stq_v rfl Same.refl ?_
          first | (simp only [mkAct, List.foldl_cons, List.foldl_nil, List.setIfInBounds_toArray, List.set_cons_succ, List.set_cons_zero, upd, reduceIte, Nat.reduceEqDiff, Nat.reduceAdd, f7, str]; done) | (simp [mkAct, upd, f7, str, *]; done)
        · -- operation 9
          go_wp2
          refine stq_v rfl Same.refl ?_
          first | (simp only [mkAct, List.foldl_cons, List.foldl_nil, List.setIfInBounds_toArray, List.set_cons_succ, List.set_cons_zero, upd, reduceIte, Nat.reduceEqDiff, Nat.reduceAdd, str]; done) | (simp [mkAct, upd, str, *]; done)
        · -- operation 10
          obtain ⟨f8, f9, -⟩ := hp
          replace f8 : u 8 = (uv nn) := f8
          replace f9 : u 9 = (uv S.g) := f9
          try simp only [f8, f9, str]
          go_wp2
          rw [u32_and_words, ← hp2.out]
          refine stq_v rfl Same.refl ?_
          first | (simp only [mkAct, List.foldl_cons, List.foldl_nil, List.setIfInBounds_toArray, List.set_cons_succ, List.set_cons_zero, upd, reduceIte, Nat.reduceEqDiff, Nat.reduceAdd, f8, f9, str]; done) | (simp [mkAct, upd, f8, f9, str, *]; done)
        · -- operation 11
          obtain ⟨f6, f10, -⟩ := hp
          replace f6 : u 6 = (uv p1) := f6
          replace f10 : u 10 = (uv p2) := f10
          try simp only [f6, f10, str]
          go_wp2
          rw [u32_xor_words, ← hp3.out]
          refine stq_v rfl Same.refl ?_
          first | (simp only [mkAct, List.foldl_cons, List.foldl_nil, List.setIfInBounds_toArray, List.set_cons_succ, List.set_cons_zero, upd, reduceIte, Nat.reduceEqDiff, Nat.reduceAdd, f6, f10, str]; done) | (simp [mkAct, upd, f6, f10, str, *]; done)
        · -- operation 12
          obtain ⟨f3, f11, -⟩ := hp
          replace f3 : u 3 = (uv q1) := f3
          replace f11 : u 11 = (uv p3) := f11
          try simp only [f3, f11, str]
          go_wp2
          rw [u32_add_words, ← hq2.out]
          refine stq_v rfl Same.refl ?_
          first | (simp only [mkAct, List.foldl_cons, List.foldl_nil, List.setIfInBounds_toArray, List.set_cons_succ, List.set_cons_zero, upd, reduceIte, Nat.reduceEqDiff, Nat.reduceAdd, f3, f11, str]; done) | (simp [mkAct, upd, f3, f11, str, *]; done)
        · -- operation 13
          go_wp2
          refine stq_v rfl Same.refl ?_
          first | (simp only [mkAct, List.foldl_cons, List.foldl_nil, List.setIfInBounds_toArray, List.set_cons_succ, List.set_cons_zero, upd, reduceIte, Nat.reduceEqDiff, Nat.reduceAdd, str]; done) | (simp [mkAct, upd, str, *]; done)
        · -- operation 14
          obtain ⟨f13, -, -⟩ := hp
          replace f13 : u 13 = (.int .i64 (t : Int)) := f13
          try simp only [f13, str]
          go_wp2_with fail
          refine (hkc.out _).mono ?_
          rintro e w1 ⟨rfl, hd⟩
          go_wp2
          refine stq_v rfl hd ?_
          first | (simp only [mkAct, List.foldl_cons, List.foldl_nil, List.setIfInBounds_toArray, List.set_cons_succ, List.set_cons_zero, upd, reduceIte, Nat.reduceEqDiff, Nat.reduceAdd, f13, str]; done) | (simp [mkAct, upd, f13, str, *]; done)
        · -- operation 15
          obtain ⟨f12, f14, -⟩ := hp
          replace f12 : u 12 = (uv q2) := f12
          replace f14 : u 14 = (uv kt) := f14
          try simp only [f12, f14, str]
          go_wp2
          rw [u32_add_words, ← hq3.out]
          refine stq_v rfl Same.refl ?_
          first | (simp only [mkAct, List.foldl_cons, List.foldl_nil, List.setIfInBounds_toArray, List.set_cons_succ, List.set_cons_zero, upd, reduceIte, Nat.reduceEqDiff, Nat.reduceAdd, f12, f14, str]; done) | (simp [mkAct, upd, f12, f14, str, *]; done)
        · -- operation 16
          go_wp2
          refine stq_v rfl Same.refl ?_
          first | (simp only [mkAct, List.foldl_cons, List.foldl_nil, List.setIfInBounds_toArray, List.set_cons_succ, List.set_cons_zero, upd, reduceIte, Nat.reduceEqDiff, Nat.reduceAdd, str]; done) | (simp [mkAct, upd, str, *]; done)
        · -- operation 17
          obtain ⟨f16, -⟩ := hp
          replace f16 : u 16 = (.int .i64 (t : Int)) := f16
          try simp only [f16, str]
          have q1 : (t : Int) < 64 := by omega
          have q0 : 0 ≤ (t : Int) := by omega
          go_wp2
          refine stq_v rfl Same.refl ?_
          first | (simp only [mkAct, List.foldl_cons, List.foldl_nil, List.setIfInBounds_toArray, List.set_cons_succ, List.set_cons_zero, upd, reduceIte, Nat.reduceEqDiff, Nat.reduceAdd, f16, str]; done) | (simp [mkAct, upd, f16, str, *]; done)
        · -- operation 18
          obtain ⟨f17, -⟩ := hp
          replace f17 : u 17 = (.pointer (some ⟨bw, t, none⟩)) := f17
          try simp only [f17, str]
          have cx := hI.cell cw.out
          go_wp2
          refine stq_v rfl Same.refl ?_
          first | (simp only [mkAct, List.foldl_cons, List.foldl_nil, List.setIfInBounds_toArray, List.set_cons_succ, List.set_cons_zero, upd, reduceIte, Nat.reduceEqDiff, Nat.reduceAdd, f17, str]; done) | (simp [mkAct, upd, f17, str, *]; done)
        · -- operation 19
          obtain ⟨f15, f18, -⟩ := hp
          replace f15 : u 15 = (uv q3) := f15
          replace f18 : u 18 = (uv k) := f18
          try simp only [f15, f18, str]
          go_wp2
          rw [u32_add_words, ← hq4.out]
          refine stq_v rfl Same.refl ?_
          first | (simp only [mkAct, List.foldl_cons, List.foldl_nil, List.setIfInBounds_toArray, List.set_cons_succ, List.set_cons_zero, upd, reduceIte, Nat.reduceEqDiff, Nat.reduceAdd, f15, f18, str]; done) | (simp [mkAct, upd, f15, f18, str, *]; done)
      · intro u wx hI hR
        obtain ⟨r0, r1, r2, r3, r4, r5, r6, r7, r8, r9, r10, r11, r12, r13, r14, r15, r16, r17, r18, r19, -⟩ := hR
        replace r0 : u 0 = (uv S.h) := r0
        replace r1 : u 1 = (uv S.e) := r1
        replace r2 : u 2 = (uv T) := r2
        replace r3 : u 3 = (uv q1) := r3
        replace r4 : u 4 = (uv S.e) := r4
        replace r5 : u 5 = (uv S.f) := r5
        replace r6 : u 6 = (uv p1) := r6
        replace r7 : u 7 = (uv S.e) := r7
        replace r8 : u 8 = (uv nn) := r8
        replace r9 : u 9 = (uv S.g) := r9
        replace r10 : u 10 = (uv p2) := r10
        replace r11 : u 11 = (uv p3) := r11
        replace r12 : u 12 = (uv q2) := r12
        replace r13 : u 13 = (.int .i64 (t : Int)) := r13
        replace r14 : u 14 = (uv kt) := r14
        replace r15 : u 15 = (uv q3) := r15
        replace r16 : u 16 = (.int .i64 (t : Int)) := r16
        replace r17 : u 17 = (.pointer (some ⟨bw, t, none⟩)) := r17
        replace r18 : u 18 = (uv k) := r18
        replace r19 : u 19 = (uv q4) := r19
        simp only [mkAct, List.foldl_cons, List.foldl_nil, List.setIfInBounds_toArray, List.set_cons_succ, List.set_cons_zero]
        try simp only [str, r0, r1, r2, r3, r4, r5, r6, r7, r8, r9, r10, r11, r12, r13, r14, r15, r16, r17, r18, r19]
        obtain ⟨m1, hm1⟩ : ∃ m, m = S.a &&& S.b := ⟨_, rfl⟩
        obtain ⟨m2, hm2⟩ : ∃ m, m = S.a &&& S.c := ⟨_, rfl⟩
        obtain ⟨m3, hm3⟩ : ∃ m, m = m1 ^^^ m2 := ⟨_, rfl⟩
        obtain ⟨m4, hm4⟩ : ∃ m, m = S.b &&& S.c := ⟨_, rfl⟩
        obtain ⟨m5, hm5⟩ : ∃ m, m = m3 ^^^ m4 := ⟨_, rfl⟩
        obtain ⟨U, hU⟩ : ∃ m, m = Sha.turns S.a 2 13 22 := ⟨_, rfl⟩
        obtain ⟨y, hy⟩ : ∃ m, m = U + m5 := ⟨_, rfl⟩
        obtain ⟨z1, hz1⟩ : ∃ m, m = q4 + y := ⟨_, rfl⟩
        obtain ⟨z2, hz2⟩ : ∃ m, m = S.d + q4 := ⟨_, rfl⟩
        have hy2 : S.y = y := by rw [hy, hm5, hm4, hm3, hm2, hm1, hU]; rfl
        have hUc : ∀ w, Calls Try.prog 199 #[uv S.a, .int .i64 2, .int .i64 13, .int .i64 22] w fun e w' => e = .returned (uv U) ∧ w = w' := fun w => by rw [hU]; exact hturns.out S.a 2 13 22 w (by omega) (by omega) (by omega)
        have hst : S.step (Sha.kAt t) k = ⟨z1, S.a, S.b, S.c, z2, S.e, S.f, S.g⟩ := by
          rw [hz1, hz2, ← hy2, ← hx.out]
          rfl
        have v1 := u32_and_words S.a S.b
        have v2 := u32_and_words S.a S.c
        have v4 := u32_and_words S.b S.c
        rw [← hm1] at v1
        rw [← hm2] at v2
        rw [← hm4] at v4
        have v3 := u32_xor_words m1 m2
        rw [← hm3] at v3
        have v5 := u32_xor_words m3 m4
        rw [← hm5] at v5
        have v6 := u32_add_words U m5
        rw [← hy] at v6
        have v7 := u32_add_words q4 y
        rw [← hz1] at v7
        have v8 := u32_add_words S.d q4
        rw [← hz2] at v8
        replace hm1 := Lib.hid hm1
        replace hm2 := Lib.hid hm2
        replace hm3 := Lib.hid hm3
        replace hm4 := Lib.hid hm4
        replace hm5 := Lib.hid hm5
        replace hU := Lib.hid hU
        replace hy := Lib.hid hy
        replace hz1 := Lib.hid hz1
        replace hz2 := Lib.hid hz2
        replace hy2 := Lib.hid hy2
        replace hUc := Lib.hid hUc
        replace hst := Lib.hid hst
        go_wp2_with fail
        refine (hUc.out _).mono ?_
        rintro e w5 ⟨rfl, rfl⟩
        go_wp2
        go_roundw
        case rel =>
          have hst2 := hstep.out.trans hst.out
          have z1e : Value.int .u32 (((q4.toNat : Int) + (y.toNat : Int)) % 4294967296) = uv z1 := by rw [hz1.out]; exact congrArg (Value.int .u32) (u32_add_words _ _)
          have z2e : Value.int .u32 (((S.d.toNat : Int) + (q4.toNat : Int)) % 4294967296) = uv z2 := by rw [hz2.out]; exact congrArg (Value.int .u32) (u32_add_words _ _)
          exact ⟨t + 1, by omega, by go_num, by rw [hst2]; exact z1e, by rw [hst2], by rw [hst2], by rw [hst2], by rw [hst2]; exact z2e, by rw [hst2], by rw [hst2], by rw [hst2], hs.out.trans hI⟩
        case measure => simp [intOf]; omega
    · obtain rfl : t = 64 := by omega
      rw [show ((64 : Nat) : Int) = 64 from rfl]
      have hbk := Sha.block_eq s wait
      obtain ⟨S, hS⟩ : ∃ S, S = s.run (Sha.words wait) 64 := ⟨_, rfl⟩
      rw [← hS] at hbk
      rw [← hS]
      clear hS hlt ht
      replace hbk := Lib.hid hbk
      have hb3 := (hs.block sb (blk_lt hb2s.out)).trans hb2s.out
      have hk3 : Keep (· = sb) w wr := Keep.of_same (hs2.out.trans hs)
      rw [← half_none s S] at hb3
      clear hs
      replace hb3 := Lib.hid hb3
      replace hk3 := Lib.hid hk3
      have hsbw : sb < wr.heap.size := blk_lt hb3.out
      go_wp2
      obtain ⟨G, hG⟩ : ∃ G, G = (#[uv S.a, uv S.b, uv S.c, uv S.d, uv S.e, uv S.f, uv S.g, uv S.h] : Array Value) := ⟨_, rfl⟩
      rw [← hG]
      have hgl := fun j h w => hG ▸ list_index S j h w
      clear hG
      replace hgl := Lib.hid hgl
      go_loopw [120] (fun i wx => ∃ k : Nat, k ≤ 8 ∧ i = .int .i64 k ∧ wx.heap[sb]? = some (.cells (stm (half s S k) wait n).toArray 254 (0, 0)) ∧ Keep (· = sb) w wx) (fun i _ => 8 - (intOf i).toNat)
      case atStart => exact ⟨0, by omega, rfl, hb3.out, hk3.out⟩
      case round =>
        clear hb3 hk3 hsbw
        obtain ⟨k, hk, rfl, hb3, hk3⟩ := hrel
        by_cases hlt : k < 8
        · have cg := hgl.out k hlt
          have cc := (blk_cell hb3 k).trans (stm_h (half_length s S k hk) hlt)
          rw [half_get s S k hlt] at cc
          have ff := blk_frozen hb3 k
          have hset := half_set s S k hlt
          have hst := stm_set (s := half s S k) (wait := wait) (n := n) (s.list.getD k 0 + S.list.getD k 0) (by rw [half_length s S k hk]; exact hlt)
          rw [hset] at hst
          clear hset
          obtain ⟨x, hx⟩ : ∃ x, x = s.list.getD k 0 := ⟨_, rfl⟩
          obtain ⟨y, hy⟩ : ∃ y, y = S.list.getD k 0 := ⟨_, rfl⟩
          rw [← hx, ← hy] at hst
          rw [← hx] at cc
          rw [← hy] at cg
          clear hx hy
          have q0 : 0 ≤ (k : Int) := by omega
          have q1 : (k : Int) < 8 := by omega
          replace hst := Lib.hid hst
          replace hb3 := Lib.hid hb3
          replace hk3 := Lib.hid hk3
          go_wp2
          go_still_tail 11, (by kernel_rfl)
          change wpList _ _ _ _ _ (World.drew _)
          go_wp2
          go_wp2
          go_roundw
          case rel =>
            have hk4 : Keep (· = sb) wr (wr.setCell ⟨sb, k, none⟩ (uv (x + y))).drew := (Keep.setCell (p := (· = sb)) _ rfl).trans (Keep.drew (p := (· = sb))) (fun _ _ h => h)
            rw [show (Value.int IntKind.u32 (((x.toNat : Int) + (y.toNat : Int)) % 4294967296)) = uv (x + y) from congrArg (Value.int .u32) (u32_add_words _ _)]
            have hset := blk_set (i := k) (v := uv (x + y)) hb3.out
            rw [hst.out] at hset
            exact ⟨k + 1, by omega, by go_num, hset, hk3.out.trans hk4 (fun _ _ h => h)⟩
          case measure => simp [intOf]; omega
        · obtain rfl : k = 8 := by omega
          rw [half_all] at hb3
          go_wp2
          go_end0
          exact ⟨rfl, by rw [hbk.out]; exact hb3, hk3⟩
end Go.Proofs.Ytmacgmmjgdmleaa
