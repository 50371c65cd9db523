/-
  The walk of the law SealSigns: which keys there are, what they make of any body, and which tags are taken, is as the document says.
-/
-- @law str, int, int, str, rep tag
import Derived.Test.YtejdiganmghopaaSeal2
import Derived.Test.YtejdiganmghopaaLives4
import Derived.Test.YtejdiganmghopaaRd
import Derived.Deep.DeepCutAuto
namespace Go.Proofs.Ytejdiganmghopaa
open Go Go.RowKit
set_option linter.unusedSimpArgs false
set_option linter.unusedVariables false

set_option maxRecDepth 100000 in
set_option maxHeartbeats 400000 in
theorem signs_big (w : World) (seed : ByteArray) (n id : Int) (body : ByteArray) (t : List UInt8) (ht : t.length = 16) (h : 2000 < seed.size ∨ seed.size ≤ 2000 ∧ 2000 < body.size) :
    Calls Try.prog 12 #[.string seed, .int .i64 n, .int .i64 id, .string body, .agg (bv t).toArray] w fun e w' => e = .returned (.bool true) ∧ Same w w' := by
  have hl := Lib.hid lives4
  have hinfT := Lib.hid (tag_info ht)
  replace ht := Lib.hid ht
  rcases h with h | ⟨h, h'⟩
  all_goals
    go_enter Try.func12, Try.ntmps12
    go_upto_region 1 with (refine box_row rfl _ _ rfl _ rfl hinfT.out ?_; intro w0 hbx hs0; clear hbx; replace hs0 := Lib.hid hs0)
    go_wp2_with fail
    refine (hl.out _).mono ?_
    rintro e w2 ⟨rfl, hs2⟩
    go_wp2
    go_ret
    exact ⟨rfl, hs0.out.trans hs2⟩
set_option maxRecDepth 100000 in
set_option maxHeartbeats 800000 in
theorem signs_none (w : World) (seed : ByteArray) (n id : Int) (body : ByteArray) (t : List UInt8) (ht : t.length = 16) (h1 : seed.size ≤ 2000) (h2 : body.size ≤ 2000) (h : n < 1 ∨ 1 ≤ n ∧ 4096 < n ∨ 1 ≤ n ∧ n ≤ 4096 ∧ 64 < seed.size) :
    Calls Try.prog 12 #[.string seed, .int .i64 n, .int .i64 id, .string body, .agg (bv t).toArray] w fun e w' => e = .returned (.bool true) ∧ Same w w' := by
  have hl := Lib.hid lives4
  have hinfT := Lib.hid (tag_info ht)
  have hd := Lib.hid (fun w => derive_none w seed n h)
  have hr := Lib.hid (fun w => rderive_none w seed n h)
  have hk := Lib.hid (fun w => klen_any w none seed 0 (.inl ⟨rfl, rfl⟩))
  replace ht := Lib.hid ht
  clear h
  go_enter Try.func12, Try.ntmps12
  go_upto_region 1 with (refine box_row rfl _ _ rfl _ rfl hinfT.out ?_; intro w0 hbx hs0; clear hbx; replace hs0 := Lib.hid hs0)
  go_wp2_with fail
  refine (hd.out _).mono ?_
  rintro e w1 ⟨rfl, rfl⟩
  go_wp2_with fail
  refine (hr.out _).mono ?_
  rintro e w2 ⟨rfl, hs2⟩
  replace hs2 := Lib.hid hs2
  go_wp2_with fail
  refine (hk.out _).mono ?_
  rintro e w3 ⟨rfl, rfl⟩
  go_wp2_with fail
  refine (hl.out _).mono ?_
  rintro e w4 ⟨rfl, hs4⟩
  go_wp2
  go_ret
  exact ⟨rfl, ((hs0.out.trans hs2.out).alloc _).trans hs4⟩
set_option maxRecDepth 100000 in
set_option maxHeartbeats 1600000 in
theorem signs_some (w : World) (seed : ByteArray) (n : Nat) (id : Int) (body : ByteArray) (t : List UInt8) (ht : t.length = 16) (h1 : 1 ≤ n) (h2 : n ≤ 4096) (h3 : seed.size ≤ 64) (h4 : body.size ≤ 2000) :
    Calls Try.prog 12 #[.string seed, .int .i64 n, .int .i64 id, .string body, .agg (bv t).toArray] w fun e w' => e = .returned (.bool true) ∧ Same w w' := by
  have hl := Lib.hid lives4
  have hinfT := Lib.hid (tag_info ht)
  have hd := Lib.hid (fun w => derive_some w seed n h1 h2 h3)
  have hr := Lib.hid (fun w => rderive_some w seed n h1 h2 h3)
  have hk := fun w p h => klen_any w p seed n h
  have hsg := fun w p h => sign_any w p seed n id body h (by omega) (by omega) (by omega)
  have hck := fun w p h => check_any w p seed n id body t ht h (by omega) (by omega) (by omega)
  have hrs := fun w => rsign_any w seed n id body (by omega) (by omega) (by omega)
  have hrc := fun w => rcheck_any w seed n id body t ht (by omega) (by omega) (by omega)
  rw [Sha.rsign_eq _ _ _ _ (by omega)] at hsg
  rw [Sha.rcheck_eq _ _ _ _ _ (by omega)] at hck
  have hXl := Sha.rsign_length seed.data.toList n id body.data.toList
  obtain ⟨X, hX⟩ : ∃ X, X = Sha.rsign seed.data.toList n id body.data.toList := ⟨_, rfl⟩
  rw [← hX] at hsg hrs hXl
  obtain ⟨c, hc⟩ : ∃ c, c = Sha.rcheck seed.data.toList n id body.data.toList t := ⟨_, rfl⟩
  rw [← hc] at hck hrc
  have hinfX := Lib.hid (tag_info hXl)
  have hinfK := Lib.hid (keys_info #[.string seed, .int .i64 n] rfl)
  have he := fun w => tag_eql X.1 X.1 hXl hXl w
  rw [show (X.1 == X.1) = true from by simp] at he
  obtain ⟨E, hE⟩ : ∃ E, E = X.2 := ⟨_, rfl⟩
  unfold RetTag at hsg hrs
  rw [← hE] at hsg hrs
  clear hX hc hE
  replace ht := Lib.hid ht
  replace hk := Lib.hid hk
  replace hsg := Lib.hid hsg
  replace hck := Lib.hid hck
  replace hrs := Lib.hid hrs
  replace hrc := Lib.hid hrc
  replace hXl := Lib.hid hXl
  replace he := Lib.hid he
  go_enter Try.func12, Try.ntmps12
  go_upto_region 1 with (refine box_row rfl _ _ rfl _ rfl hinfT.out ?_; intro w0 hbx hs0; have hbxl := blk_lt hbx; replace hbx := Lib.hid hbx; replace hs0 := Lib.hid hs0)
  have h3' : ¬ 2000 < (seed.size : Int) := by omega
  go_wp2_with fail
  refine (hd.out _).mono ?_
  rintro e w1 ⟨p, rfl, hka, hs1⟩
  replace hka := Lib.hid hka
  replace hs1 := Lib.hid hs1
  go_wp2_with fail
  refine (hr.out _).mono ?_
  rintro e w2 ⟨rfl, hs2⟩
  replace hs2 := Lib.hid hs2
  go_upto_region 5 with fail
  have hb3 := heap_alloc_new w2 (.cells #[.string seed, .int .i64 (n : Int)] 101)
  have hs3 : Same w2 (w2.alloc (.cells #[.string seed, .int .i64 (n : Int)] 101)) := Same.refl.alloc _
  obtain ⟨w3, hw3⟩ : ∃ w3, w3 = w2.alloc (.cells #[.string seed, .int .i64 (n : Int)] 101) := ⟨_, rfl⟩
  rw [← hw3] at hb3 hs3
  rw [← hw3]
  have hs13 := hs2.out.trans hs3
  have hka3 := hka.out.same hs13
  have hs03 := (hs0.out.trans hs1.out).trans hs13
  have hbx3 := ((hs1.out.trans hs13).block _ hbxl).trans hbx.out
  have hb3l := blk_lt hb3
  have hbx3l := blk_lt hbx3
  clear hw3 hs3 hs2 hka hs0 hs1 hbx hs13
  replace hb3 := Lib.hid hb3
  replace hka3 := Lib.hid hka3
  replace hs03 := Lib.hid hs03
  replace hbx3 := Lib.hid hbx3
  have hsg3 := Lib.hid (hsg.out _ _ hka3.out)
  go_wp2_with fail
  refine hsg3.out.mono ?_
  rintro e w4 ⟨rfl, hs4⟩
  replace hs4 := Lib.hid hs4
  go_upto_region 10 with (first | (refine alloc_new rfl 91 rfl (bv noTag).toArray (by kernel_rfl) ?_; intro w5 hb5 hs5; have hb5l := blk_lt hb5; replace hb5 := Lib.hid hb5; replace hs5 := Lib.hid hs5) | (refine store_row rfl _ _ _ rfl w4.heap.size _ rfl rfl _ _ hb5.out hinfX.out (by rw [List.size_toArray, List.size_toArray, bv_length, bv_length, hXl.out]; rfl) (by simpa using bv_cell) ?_; intro w6 hb6 hk6))
  have hs36 : Same w3 w6 := (hs4.out.trans hs5.out).keep hk6 (fun x hx hv => by have := hs4.out.size; omega)
  have hb36 := (hs36.block _ hb3l).trans hb3.out
  have hz6 := hs36.size
  have hz4 := hs4.out.size
  have hb6l := blk_lt hb6
  clear hk6 hs5 hb5 hs4 hsg3
  replace hs36 := Lib.hid hs36
  replace hb36 := Lib.hid hb36
  replace hb6 := Lib.hid hb6
  go_simp
  go_wp2_with (refine load_row rfl _ _ rfl w2.heap.size rfl _ _ _ _ hb36.out Try.underlying101 rfl hinfK.out ?_)
  refine (hrs.out _).mono ?_
  rintro e w7 ⟨rfl, hs7⟩
  have hb67 := (hs7.block _ hb6l).trans hb6.out
  have hz7 := hs7.size
  replace hs7 := Lib.hid hs7
  replace hb67 := Lib.hid hb67
  go_upto_region 11 with (first | (refine alloc_new rfl 91 rfl (bv noTag).toArray (by kernel_rfl) ?_; intro w8 hb8 hs8; have hb8l := blk_lt hb8; replace hb8 := Lib.hid hb8; replace hs8 := Lib.hid hs8) | (refine store_row rfl _ _ _ rfl w7.heap.size _ rfl rfl _ _ hb8.out hinfX.out (by rw [List.size_toArray, List.size_toArray, bv_length, bv_length, hXl.out]; rfl) (by simpa using bv_cell) ?_; intro w9 hb9 hk9))
  have hs79 : Same w7 w9 := hs8.out.keep hk9 (fun x hx hv => by omega)
  have hb6z := (hs79.block _ (blk_lt hb67.out)).trans hb67.out
  have hs39 := (hs36.out.trans hs7.out).trans hs79
  have hb3z := (hs39.block _ hb3l).trans hb3.out
  have hbxz := (hs39.block _ hbx3l).trans hbx3.out
  have hkaz := hka3.out.same hs39
  have hw9 := hs03.out.trans hs39
  have hb3zl := blk_lt hb3z
  have hb6zl := blk_lt hb6z
  have hb9l := blk_lt hb9
  have hbxzl := blk_lt hbxz
  have c31 := blk_cell hb3z 1
  simp at c31
  clear hk9 hs8 hb8 hs79 hs39 hs36 hs7 hb67 hb6 hb36 hb3 hbx3 hka3 hs03
  replace hb9 := Lib.hid hb9
  replace hb6z := Lib.hid hb6z
  replace hb3z := Lib.hid hb3z
  replace hbxz := Lib.hid hbxz
  replace hkaz := Lib.hid hkaz
  replace hw9 := Lib.hid hw9
  replace c31 := Lib.hid c31
  go_simp
  refine wp_region_tails (by kernel_rfl) [(62, 0), (63, 1), (64, 2), (65, 3), (66, 4), (67, 5), (68, 6), (69, 7), (70, 8), (71, 9), (72, 10), (73, 11), (74, 12), (75, 13), (76, 14), (77, 15), (78, 16), (79, 17), (80, 18), (81, 19), (82, 20), (83, 21), (84, 22), (85, 23), (86, 24), (87, 25), (88, 26), (89, 27), (90, 28), (91, 29), (92, 30)] Same (Same _) [isV (.agg (bv X.1).toArray), isV (.agg (bv X.1).toArray), isV (.bool true), isV (.bool true), isV (.int .i64 (E : Int)), isV (.int .i64 (E : Int)), isV (.bool true), isV (.bool true), isV (.bool true), isV (.pointer (some p)), isV (.int .i64 (n : Int)), isV (.pointer (some ⟨w2.heap.size, 1, none⟩)), isV (.int .i64 (n : Int)), isV (.bool true), isV (.bool true), isV (.bool true), isV (.pointer (some p)), isV (.int .i64 id), isV (.string body), isV (.agg (bv t).toArray), isV (.bool c), isV (rkeys seed n), isV (.int .i64 id), isV (.string body), isV (.agg (bv t).toArray), isV (.bool c), isV (.bool true), isV (.bool true), isV (.bool true), isV (.bool true), isV (.bool true)] Same.refl.drew (fun _ _ h k => h.trans k) (by simp [isV_stable, isB_stable, isAny_stable]) (by decide) (l := [_, _, _, _, _, _, _, _, _, _, _, _, _, _, _, _, _, _, _, _, _, _, _, _, _, _, _, _, _, _, _]) rfl (by decide) (by kernel_rfl) ?_ ?_
  · refine ⟨?_, ?_, ?_, ?_, ?_, ?_, ?_, ?_, ?_, ?_, ?_, ?_, ?_, ?_, ?_, ?_, ?_, ?_, ?_, ?_, ?_, ?_, ?_, ?_, ?_, ?_, ?_, ?_, ?_, ?_, ?_, trivial⟩
    all_goals (intro u wx hI hp; simp only [mkAct, List.foldl_cons, List.foldl_nil, List.setIfInBounds_toArray, List.set_cons_succ, List.set_cons_zero])
    · -- operation 0
      go_wp2_with (refine load_row rfl _ _ rfl w4.heap.size rfl _ _ _ _ ((hI.block _ hb6zl).trans hb6z.out) Try.underlying91 rfl hinfX.out ?_)
      refine stq_v rfl Same.refl ?_
      first | (simp only [mkAct, List.foldl_cons, List.foldl_nil, List.setIfInBounds_toArray, List.set_cons_succ, List.set_cons_zero, upd, reduceIte, Nat.reduceEqDiff, Nat.reduceAdd, str]; done) | (simp [mkAct, upd, str, *]; done)
    · -- operation 1
      go_wp2_with (refine load_row rfl _ _ rfl w7.heap.size rfl _ _ _ _ ((hI.block _ hb9l).trans hb9.out) Try.underlying91 rfl hinfX.out ?_)
      refine stq_v rfl Same.refl ?_
      first | (simp only [mkAct, List.foldl_cons, List.foldl_nil, List.setIfInBounds_toArray, List.set_cons_succ, List.set_cons_zero, upd, reduceIte, Nat.reduceEqDiff, Nat.reduceAdd, str]; done) | (simp [mkAct, upd, str, *]; done)
    · -- operation 2
      obtain ⟨f0, f1, -⟩ := hp
      replace f0 : u 0 = (.agg (bv X.1).toArray) := f0
      replace f1 : u 1 = (.agg (bv X.1).toArray) := f1
      try simp only [f0, f1, str]
      have he := he.out
      have hgd := tag_guard
      go_wp2
      refine stq_v rfl Same.refl ?_
      first | (simp only [mkAct, List.foldl_cons, List.foldl_nil, List.setIfInBounds_toArray, List.set_cons_succ, List.set_cons_zero, upd, reduceIte, Nat.reduceEqDiff, Nat.reduceAdd, f0, f1, str]; done) | (simp [mkAct, upd, f0, f1, str, *]; done)
    · -- operation 3
      obtain ⟨f2, -⟩ := hp
      replace f2 : u 2 = (.bool true) := f2
      try simp only [f2, str]
      go_wp2
      refine stq_v rfl Same.refl ?_
      first | (simp only [mkAct, List.foldl_cons, List.foldl_nil, List.setIfInBounds_toArray, List.set_cons_succ, List.set_cons_zero, upd, reduceIte, Nat.reduceEqDiff, Nat.reduceAdd, f2, str]; done) | (simp [mkAct, upd, f2, str, *]; done)
    · -- operation 4
      obtain ⟨f3, -⟩ := hp
      replace f3 : u 3 = (.bool true) := f3
      try simp only [f3, str]
      go_wp2
      refine stq_v rfl Same.refl ?_
      first | (simp only [mkAct, List.foldl_cons, List.foldl_nil, List.setIfInBounds_toArray, List.set_cons_succ, List.set_cons_zero, upd, reduceIte, Nat.reduceEqDiff, Nat.reduceAdd, f3, str]; done) | (simp [mkAct, upd, f3, str, *]; done)
    · -- operation 5
      obtain ⟨f3, -⟩ := hp
      replace f3 : u 3 = (.bool true) := f3
      try simp only [f3, str]
      go_wp2
      refine stq_v rfl Same.refl ?_
      first | (simp only [mkAct, List.foldl_cons, List.foldl_nil, List.setIfInBounds_toArray, List.set_cons_succ, List.set_cons_zero, upd, reduceIte, Nat.reduceEqDiff, Nat.reduceAdd, f3, str]; done) | (simp [mkAct, upd, f3, str, *]; done)
    · -- operation 6
      obtain ⟨f4, f5, f3, -⟩ := hp
      replace f4 : u 4 = (.int .i64 (E : Int)) := f4
      replace f5 : u 5 = (.int .i64 (E : Int)) := f5
      replace f3 : u 3 = (.bool true) := f3
      try simp only [f4, f5, f3, str]
      go_wp2
      refine stq_v rfl Same.refl ?_
      first | (simp only [mkAct, List.foldl_cons, List.foldl_nil, List.setIfInBounds_toArray, List.set_cons_succ, List.set_cons_zero, upd, reduceIte, Nat.reduceEqDiff, Nat.reduceAdd, f4, f5, f3, str]; done) | (simp [mkAct, upd, f4, f5, f3, str, *]; done)
    · -- operation 7
      obtain ⟨f3, f6, -⟩ := hp
      replace f3 : u 3 = (.bool true) := f3
      replace f6 : u 6 = (.bool true) := f6
      try simp only [f3, f6, str]
      go_wp2
      refine stq_v rfl Same.refl ?_
      first | (simp only [mkAct, List.foldl_cons, List.foldl_nil, List.setIfInBounds_toArray, List.set_cons_succ, List.set_cons_zero, upd, reduceIte, Nat.reduceEqDiff, Nat.reduceAdd, f3, f6, str]; done) | (simp [mkAct, upd, f3, f6, str, *]; done)
    · -- operation 8
      obtain ⟨f7, -, -⟩ := hp
      replace f7 : u 7 = (.bool true) := f7
      try simp only [f7, str]
      go_wp2
      refine stq_v rfl Same.refl ?_
      first | (simp only [mkAct, List.foldl_cons, List.foldl_nil, List.setIfInBounds_toArray, List.set_cons_succ, List.set_cons_zero, upd, reduceIte, Nat.reduceEqDiff, Nat.reduceAdd, f7, str]; done) | (simp [mkAct, upd, f7, str, *]; done)
    · -- operation 9
      obtain ⟨f8, -⟩ := hp
      replace f8 : u 8 = (.bool true) := f8
      try simp only [f8, str]
      go_wp2
      refine stq_v rfl Same.refl ?_
      first | (simp only [mkAct, List.foldl_cons, List.foldl_nil, List.setIfInBounds_toArray, List.set_cons_succ, List.set_cons_zero, upd, reduceIte, Nat.reduceEqDiff, Nat.reduceAdd, f8, str]; done) | (simp [mkAct, upd, f8, str, *]; done)
    · -- operation 10
      obtain ⟨f9, -, f8, -⟩ := hp
      replace f9 : u 9 = (.pointer (some p)) := f9
      replace f8 : u 8 = (.bool true) := f8
      try simp only [f9, f8, str]
      go_wp2_with fail
      refine (hk.out _ _ (hkaz.out.same hI)).mono ?_
      rintro e w1 ⟨rfl, rfl⟩
      go_wp2
      refine stq_v rfl Same.refl ?_
      first | (simp only [mkAct, List.foldl_cons, List.foldl_nil, List.setIfInBounds_toArray, List.set_cons_succ, List.set_cons_zero, upd, reduceIte, Nat.reduceEqDiff, Nat.reduceAdd, f9, f8, str]; done) | (simp [mkAct, upd, f9, f8, str, *]; done)
    · -- operation 11
      obtain ⟨f8, -⟩ := hp
      replace f8 : u 8 = (.bool true) := f8
      try simp only [f8, str]
      go_wp2
      refine stq_v rfl Same.refl ?_
      first | (simp only [mkAct, List.foldl_cons, List.foldl_nil, List.setIfInBounds_toArray, List.set_cons_succ, List.set_cons_zero, upd, reduceIte, Nat.reduceEqDiff, Nat.reduceAdd, f8, str]; done) | (simp [mkAct, upd, f8, str, *]; done)
    · -- operation 12
      obtain ⟨f11, f8, -⟩ := hp
      replace f11 : u 11 = (.pointer (some ⟨w2.heap.size, 1, none⟩)) := f11
      replace f8 : u 8 = (.bool true) := f8
      try simp only [f11, f8, str]
      have cx := hI.cell (c31.out)
      go_wp2
      refine stq_v rfl Same.refl ?_
      first | (simp only [mkAct, List.foldl_cons, List.foldl_nil, List.setIfInBounds_toArray, List.set_cons_succ, List.set_cons_zero, upd, reduceIte, Nat.reduceEqDiff, Nat.reduceAdd, f11, f8, str]; done) | (simp [mkAct, upd, f11, f8, str, *]; done)
    · -- operation 13
      obtain ⟨f10, f12, f8, -⟩ := hp
      replace f10 : u 10 = (.int .i64 (n : Int)) := f10
      replace f12 : u 12 = (.int .i64 (n : Int)) := f12
      replace f8 : u 8 = (.bool true) := f8
      try simp only [f10, f12, f8, str]
      go_wp2
      refine stq_v rfl Same.refl ?_
      first | (simp only [mkAct, List.foldl_cons, List.foldl_nil, List.setIfInBounds_toArray, List.set_cons_succ, List.set_cons_zero, upd, reduceIte, Nat.reduceEqDiff, Nat.reduceAdd, f10, f12, f8, str]; done) | (simp [mkAct, upd, f10, f12, f8, str, *]; done)
    · -- operation 14
      obtain ⟨f8, f13, -⟩ := hp
      replace f8 : u 8 = (.bool true) := f8
      replace f13 : u 13 = (.bool true) := f13
      try simp only [f8, f13, str]
      go_wp2
      refine stq_v rfl Same.refl ?_
      first | (simp only [mkAct, List.foldl_cons, List.foldl_nil, List.setIfInBounds_toArray, List.set_cons_succ, List.set_cons_zero, upd, reduceIte, Nat.reduceEqDiff, Nat.reduceAdd, f8, f13, str]; done) | (simp [mkAct, upd, f8, f13, str, *]; done)
    · -- operation 15
      obtain ⟨f14, -, -⟩ := hp
      replace f14 : u 14 = (.bool true) := f14
      try simp only [f14, str]
      go_wp2
      refine stq_v rfl Same.refl ?_
      first | (simp only [mkAct, List.foldl_cons, List.foldl_nil, List.setIfInBounds_toArray, List.set_cons_succ, List.set_cons_zero, upd, reduceIte, Nat.reduceEqDiff, Nat.reduceAdd, f14, str]; done) | (simp [mkAct, upd, f14, str, *]; done)
    · -- operation 16
      obtain ⟨f15, -⟩ := hp
      replace f15 : u 15 = (.bool true) := f15
      try simp only [f15, str]
      go_wp2
      refine stq_v rfl Same.refl ?_
      first | (simp only [mkAct, List.foldl_cons, List.foldl_nil, List.setIfInBounds_toArray, List.set_cons_succ, List.set_cons_zero, upd, reduceIte, Nat.reduceEqDiff, Nat.reduceAdd, f15, str]; done) | (simp [mkAct, upd, f15, str, *]; done)
    · -- operation 17
      obtain ⟨f15, -⟩ := hp
      replace f15 : u 15 = (.bool true) := f15
      try simp only [f15, str]
      go_wp2
      refine stq_v rfl Same.refl ?_
      first | (simp only [mkAct, List.foldl_cons, List.foldl_nil, List.setIfInBounds_toArray, List.set_cons_succ, List.set_cons_zero, upd, reduceIte, Nat.reduceEqDiff, Nat.reduceAdd, f15, str]; done) | (simp [mkAct, upd, f15, str, *]; done)
    · -- operation 18
      obtain ⟨f15, -⟩ := hp
      replace f15 : u 15 = (.bool true) := f15
      try simp only [f15, str]
      go_wp2
      refine stq_v rfl Same.refl ?_
      first | (simp only [mkAct, List.foldl_cons, List.foldl_nil, List.setIfInBounds_toArray, List.set_cons_succ, List.set_cons_zero, upd, reduceIte, Nat.reduceEqDiff, Nat.reduceAdd, f15, str]; done) | (simp [mkAct, upd, f15, str, *]; done)
    · -- operation 19
      obtain ⟨f15, -⟩ := hp
      replace f15 : u 15 = (.bool true) := f15
      try simp only [f15, str]
      go_wp2_with (refine load_row rfl _ _ rfl w.heap.size rfl _ _ _ _ ((hI.block _ hbxzl).trans hbxz.out) Try.underlying91 rfl hinfT.out ?_)
      refine stq_v rfl Same.refl ?_
      first | (simp only [mkAct, List.foldl_cons, List.foldl_nil, List.setIfInBounds_toArray, List.set_cons_succ, List.set_cons_zero, upd, reduceIte, Nat.reduceEqDiff, Nat.reduceAdd, f15, str]; done) | (simp [mkAct, upd, f15, str, *]; done)
    · -- operation 20
      obtain ⟨f16, f17, f18, f19, -, f15, -⟩ := hp
      replace f16 : u 16 = (.pointer (some p)) := f16
      replace f17 : u 17 = (.int .i64 id) := f17
      replace f18 : u 18 = (.string body) := f18
      replace f19 : u 19 = (.agg (bv t).toArray) := f19
      replace f15 : u 15 = (.bool true) := f15
      try simp only [f16, f17, f18, f19, f15, str]
      go_wp2_with fail
      refine (hck.out _ _ (hkaz.out.same hI)).mono ?_
      rintro e w1 ⟨rfl, hs'⟩
      go_wp2
      refine stq_v rfl hs' ?_
      first | (simp only [mkAct, List.foldl_cons, List.foldl_nil, List.setIfInBounds_toArray, List.set_cons_succ, List.set_cons_zero, upd, reduceIte, Nat.reduceEqDiff, Nat.reduceAdd, f16, f17, f18, f19, f15, str]; done) | (simp [mkAct, upd, f16, f17, f18, f19, f15, str, *]; done)
    · -- operation 21
      obtain ⟨f15, -⟩ := hp
      replace f15 : u 15 = (.bool true) := f15
      try simp only [f15, str]
      go_wp2_with (refine load_row rfl _ _ rfl w2.heap.size rfl _ _ _ _ ((hI.block _ hb3zl).trans hb3z.out) Try.underlying101 rfl hinfK.out ?_)
      refine stq_v rfl Same.refl ?_
      first | (simp only [mkAct, List.foldl_cons, List.foldl_nil, List.setIfInBounds_toArray, List.set_cons_succ, List.set_cons_zero, upd, reduceIte, Nat.reduceEqDiff, Nat.reduceAdd, f15, str]; done) | (simp [mkAct, upd, f15, str, *]; done)
    · -- operation 22
      obtain ⟨f15, -⟩ := hp
      replace f15 : u 15 = (.bool true) := f15
      try simp only [f15, str]
      go_wp2
      refine stq_v rfl Same.refl ?_
      first | (simp only [mkAct, List.foldl_cons, List.foldl_nil, List.setIfInBounds_toArray, List.set_cons_succ, List.set_cons_zero, upd, reduceIte, Nat.reduceEqDiff, Nat.reduceAdd, f15, str]; done) | (simp [mkAct, upd, f15, str, *]; done)
    · -- operation 23
      obtain ⟨f15, -⟩ := hp
      replace f15 : u 15 = (.bool true) := f15
      try simp only [f15, str]
      go_wp2
      refine stq_v rfl Same.refl ?_
      first | (simp only [mkAct, List.foldl_cons, List.foldl_nil, List.setIfInBounds_toArray, List.set_cons_succ, List.set_cons_zero, upd, reduceIte, Nat.reduceEqDiff, Nat.reduceAdd, f15, str]; done) | (simp [mkAct, upd, f15, str, *]; done)
    · -- operation 24
      obtain ⟨f15, -⟩ := hp
      replace f15 : u 15 = (.bool true) := f15
      try simp only [f15, str]
      go_wp2_with (refine load_row rfl _ _ rfl w.heap.size rfl _ _ _ _ ((hI.block _ hbxzl).trans hbxz.out) Try.underlying91 rfl hinfT.out ?_)
      refine stq_v rfl Same.refl ?_
      first | (simp only [mkAct, List.foldl_cons, List.foldl_nil, List.setIfInBounds_toArray, List.set_cons_succ, List.set_cons_zero, upd, reduceIte, Nat.reduceEqDiff, Nat.reduceAdd, f15, str]; done) | (simp [mkAct, upd, f15, str, *]; done)
    · -- operation 25
      obtain ⟨f21, f22, f23, f24, -, f15, -⟩ := hp
      replace f21 : u 21 = (rkeys seed n) := f21
      replace f22 : u 22 = (.int .i64 id) := f22
      replace f23 : u 23 = (.string body) := f23
      replace f24 : u 24 = (.agg (bv t).toArray) := f24
      replace f15 : u 15 = (.bool true) := f15
      try simp only [f21, f22, f23, f24, f15, str]
      go_wp2_with fail
      refine (hrc.out _).mono ?_
      rintro e w1 ⟨rfl, hs'⟩
      go_wp2
      refine stq_v rfl hs' ?_
      first | (simp only [mkAct, List.foldl_cons, List.foldl_nil, List.setIfInBounds_toArray, List.set_cons_succ, List.set_cons_zero, upd, reduceIte, Nat.reduceEqDiff, Nat.reduceAdd, f21, f22, f23, f24, f15, str]; done) | (simp [mkAct, upd, f21, f22, f23, f24, f15, str, *]; done)
    · -- operation 26
      obtain ⟨f20, f25, f15, -⟩ := hp
      replace f20 : u 20 = (.bool c) := f20
      replace f25 : u 25 = (.bool c) := f25
      replace f15 : u 15 = (.bool true) := f15
      try simp only [f20, f25, f15, str]
      go_wp2
      refine stq_v rfl Same.refl ?_
      first | (simp only [mkAct, List.foldl_cons, List.foldl_nil, List.setIfInBounds_toArray, List.set_cons_succ, List.set_cons_zero, upd, reduceIte, Nat.reduceEqDiff, Nat.reduceAdd, f20, f25, f15, str]; done) | (simp [mkAct, upd, f20, f25, f15, str, *]; done)
    · -- operation 27
      obtain ⟨f15, f26, -⟩ := hp
      replace f15 : u 15 = (.bool true) := f15
      replace f26 : u 26 = (.bool true) := f26
      try simp only [f15, f26, str]
      go_wp2
      refine stq_v rfl Same.refl ?_
      first | (simp only [mkAct, List.foldl_cons, List.foldl_nil, List.setIfInBounds_toArray, List.set_cons_succ, List.set_cons_zero, upd, reduceIte, Nat.reduceEqDiff, Nat.reduceAdd, f15, f26, str]; done) | (simp [mkAct, upd, f15, f26, str, *]; done)
    · -- operation 28
      obtain ⟨f27, -, -⟩ := hp
      replace f27 : u 27 = (.bool true) := f27
      try simp only [f27, str]
      go_wp2
      refine stq_v rfl Same.refl ?_
      first | (simp only [mkAct, List.foldl_cons, List.foldl_nil, List.setIfInBounds_toArray, List.set_cons_succ, List.set_cons_zero, upd, reduceIte, Nat.reduceEqDiff, Nat.reduceAdd, f27, str]; done) | (simp [mkAct, upd, f27, str, *]; done)
    · -- operation 29
      obtain ⟨-, f28, -⟩ := hp
      replace f28 : u 28 = (.bool true) := f28
      try simp only [f28, str]
      go_wp2_with fail
      refine (hl.out _).mono ?_
      rintro e w1 ⟨rfl, hs'⟩
      go_wp2
      refine stq_v rfl hs' ?_
      first | (simp only [mkAct, List.foldl_cons, List.foldl_nil, List.setIfInBounds_toArray, List.set_cons_succ, List.set_cons_zero, upd, reduceIte, Nat.reduceEqDiff, Nat.reduceAdd, f28, str]; done) | (simp [mkAct, upd, f28, str, *]; done)
    · -- operation 30
      obtain ⟨f28, f29, -⟩ := hp
      replace f28 : u 28 = (.bool true) := f28
      replace f29 : u 29 = (.bool true) := f29
      try simp only [f28, f29, str]
      go_wp2
      refine stq_v rfl Same.refl ?_
      first | (simp only [mkAct, List.foldl_cons, List.foldl_nil, List.setIfInBounds_toArray, List.set_cons_succ, List.set_cons_zero, upd, reduceIte, Nat.reduceEqDiff, Nat.reduceAdd, f28, f29, str]; done) | (simp [mkAct, upd, f28, f29, str, *]; done)
  · intro u wx hI hR
    obtain ⟨r0, r1, r2, r3, r4, r5, r6, r7, r8, r9, r10, r11, r12, r13, r14, r15, r16, r17, r18, r19, r20, r21, r22, r23, r24, r25, r26, r27, r28, r29, r30, -⟩ := hR
    replace r0 : u 0 = (.agg (bv X.1).toArray) := r0
    replace r1 : u 1 = (.agg (bv X.1).toArray) := r1
    replace r2 : u 2 = (.bool true) := r2
    replace r3 : u 3 = (.bool true) := r3
    replace r4 : u 4 = (.int .i64 (E : Int)) := r4
    replace r5 : u 5 = (.int .i64 (E : Int)) := r5
    replace r6 : u 6 = (.bool true) := r6
    replace r7 : u 7 = (.bool true) := r7
    replace r8 : u 8 = (.bool true) := r8
    replace r9 : u 9 = (.pointer (some p)) := r9
    replace r10 : u 10 = (.int .i64 (n : Int)) := r10
    replace r11 : u 11 = (.pointer (some ⟨w2.heap.size, 1, none⟩)) := r11
    replace r12 : u 12 = (.int .i64 (n : Int)) := r12
    replace r13 : u 13 = (.bool true) := r13
    replace r14 : u 14 = (.bool true) := r14
    replace r15 : u 15 = (.bool true) := r15
    replace r16 : u 16 = (.pointer (some p)) := r16
    replace r17 : u 17 = (.int .i64 id) := r17
    replace r18 : u 18 = (.string body) := r18
    replace r19 : u 19 = (.agg (bv t).toArray) := r19
    replace r20 : u 20 = (.bool c) := r20
    replace r21 : u 21 = (rkeys seed n) := r21
    replace r22 : u 22 = (.int .i64 id) := r22
    replace r23 : u 23 = (.string body) := r23
    replace r24 : u 24 = (.agg (bv t).toArray) := r24
    replace r25 : u 25 = (.bool c) := r25
    replace r26 : u 26 = (.bool true) := r26
    replace r27 : u 27 = (.bool true) := r27
    replace r28 : u 28 = (.bool true) := r28
    replace r29 : u 29 = (.bool true) := r29
    replace r30 : u 30 = (.bool true) := r30
    simp only [mkAct, List.foldl_cons, List.foldl_nil, List.setIfInBounds_toArray, List.set_cons_succ, List.set_cons_zero]
    try simp only [str, r0, r1, r2, r3, r4, r5, r6, r7, r8, r9, r10, r11, r12, r13, r14, r15, r16, r17, r18, r19, r20, r21, r22, r23, r24, r25, r26, r27, r28, r29, r30]
    go_wp2
    go_ret
    exact ⟨rfl, hw9.out.trans hI⟩
theorem walk_SealSigns (w : World) (seed : ByteArray) (hs : seed.size ≤ maxLen) (n : Int) (hn : (Lit.int .i64 n).wf = true) (id : Int) (hi : (Lit.int .i64 id).wf = true) (body : ByteArray) (hb : body.size ≤ maxLen) (t : List UInt8) (ht : t.length = 16) :
    Calls Try.prog 12 #[.string seed, .int .i64 n, .int .i64 id, .string body, .agg (bv t).toArray] w fun e w' => e = .returned (.bool true) ∧ Same w w' := by
  by_cases h : 2000 < seed.size ∨ seed.size ≤ 2000 ∧ 2000 < body.size
  · exact signs_big w seed n id body t ht h
  · by_cases h2 : n < 1 ∨ 1 ≤ n ∧ 4096 < n ∨ 1 ≤ n ∧ n ≤ 4096 ∧ 64 < seed.size
    · exact signs_none w seed n id body t ht (by omega) (by omega) h2
    · obtain ⟨m, rfl⟩ : ∃ m : Nat, n = (m : Int) := ⟨n.toNat, by omega⟩
      exact signs_some w seed m id body t ht (by omega) (by omega) (by omega) (by omega)
end Go.Proofs.Ytejdiganmghopaa
