/-
  The walk of the law SealApart: tags of two identities, or of two bodies, are unlike, as long as the macs' first bytes are.
-/
-- @law str, int, int, str, str
import Derived.Test.YtejdiganmghopaaSeal2
import Derived.Test.YtejdiganmghopaaLives4
import Derived.Test.YtejdiganmghopaaWalkSealOwn
import Derived.Deep.DeepCutAuto
namespace Go.Proofs.Ytejdiganmghopaa
open Go Go.RowKit
set_option linter.unusedSimpArgs false
set_option linter.unusedVariables false

set_option maxRecDepth 100000 in
set_option maxHeartbeats 400000 in
theorem apart_big (w : World) (seed : ByteArray) (a b : Int) (x y : ByteArray) (h : 64 < seed.size ∨ seed.size ≤ 64 ∧ 2000 < x.size ∨ seed.size ≤ 64 ∧ x.size ≤ 2000 ∧ 2000 < y.size) :
    Calls Try.prog 14 #[.string seed, .int .i64 a, .int .i64 b, .string x, .string y] w fun e w' => e = .returned (.bool true) ∧ Same w w' := by
  have hl := Lib.hid lives4
  rcases h with h | ⟨h, h'⟩ | ⟨h, h', h''⟩
  all_goals
    go_enter Try.func14, Try.ntmps14
    go_wp2_with fail
    refine (hl.out _).mono ?_
    rintro e w2 ⟨rfl, hs2⟩
    go_wp2
    go_ret
    exact ⟨rfl, hs2⟩
set_option maxRecDepth 100000 in
set_option maxHeartbeats 3200000 in
theorem apart_main (w : World) (seed : ByteArray) (a b' : Int) (x y : ByteArray) (h1 : seed.size ≤ 64) (h2 : x.size ≤ 2000) (h3 : y.size ≤ 2000) :
    Calls Try.prog 14 #[.string seed, .int .i64 a, .int .i64 b', .string x, .string y] w fun e w' => e = .returned (.bool true) ∧ Same w w' := by
  have hl := Lib.hid lives4
  obtain ⟨a', ha, hab⟩ := wrap_u64 a
  obtain ⟨b2, hb, hbb⟩ := wrap_u64 b'
  obtain ⟨m, hm⟩ : ∃ m : Nat, m = a' % 4096 := ⟨_, rfl⟩
  obtain ⟨n, hn⟩ : ∃ n : Nat, n = b2 % 4096 := ⟨_, rfl⟩
  have hm4 : m < 4096 := by omega
  have hn4 : n < 4096 := by omega
  have hd := Lib.hid (fun w => derive_some w seed 4096 (by omega) (by omega) h1)
  have hr := Lib.hid (fun w => rderive_some w seed 4096 (by omega) (by omega) h1)
  have hsg := fun w p h => sign_any w p seed 4096 (m : Int) x h (by omega) (by omega) (by omega)
  have hs1 := fun w => rsign_any w seed 4096 (m : Int) x (by omega) (by omega) (by omega)
  have hs2 := fun w => rsign_any w seed 4096 (n : Int) y (by omega) (by omega) (by omega)
  have hck := fun w p t ht h => check_any w p seed 4096 (n : Int) y t ht h (by omega) (by omega) (by omega)
  have e1 : Sha.sign seed.data.toList 4096 (m : Int) x.data.toList = (Sha.tagOf seed.data.toList (m : Int) x.data.toList, 0) := by rw [Sha.sign, if_neg (by decide), if_neg (by omega)]
  have e2 : Sha.sign seed.data.toList 4096 (n : Int) y.data.toList = (Sha.tagOf seed.data.toList (n : Int) y.data.toList, 0) := by rw [Sha.sign, if_neg (by decide), if_neg (by omega)]
  have e3 : Sha.rsign seed.data.toList 4096 (m : Int) x.data.toList = (Sha.tagOf seed.data.toList (m : Int) x.data.toList, 0) := by rw [Sha.rsign, if_neg (by omega)]
  have e4 : Sha.rsign seed.data.toList 4096 (n : Int) y.data.toList = (Sha.tagOf seed.data.toList (n : Int) y.data.toList, 0) := by rw [Sha.rsign, if_neg (by omega)]
  unfold Sha.check at hck
  rw [e2] at hck
  rw [e1] at hsg
  rw [e3] at hs1
  rw [e4] at hs2
  have hT1l := Sha.tagOf_length seed.data.toList (m : Int) x.data.toList
  have hT2l := Sha.tagOf_length seed.data.toList (n : Int) y.data.toList
  have hsame : m = n → x = y → Sha.tagOf seed.data.toList (m : Int) x.data.toList = Sha.tagOf seed.data.toList (n : Int) y.data.toList := by rintro rfl rfl; rfl
  obtain ⟨T1, hT1⟩ : ∃ T, T = Sha.tagOf seed.data.toList (m : Int) x.data.toList := ⟨_, rfl⟩
  obtain ⟨T2, hT2⟩ : ∃ T, T = Sha.tagOf seed.data.toList (n : Int) y.data.toList := ⟨_, rfl⟩
  rw [← hT1] at hsg hs1 hT1l hsame
  rw [← hT2] at hck hs2 hT2l hsame
  simp only [decide_true, Bool.true_and] at hck
  replace hck := fun w p h => hck w p T1 hT1l h
  have he := fun w => tag_eql T1 T2 hT1l hT2l w
  rw [show (T1 == T2) = (T2 == T1) from by rw [Bool.eq_iff_iff, beq_iff_eq, beq_iff_eq]; exact eq_comm] at he
  have hsameb : m = n → x = y → (T2 == T1) = true := fun h h' => by rw [hsame h h']; simp
  obtain ⟨b, hbe⟩ : ∃ b, b = (T2 == T1) := ⟨_, rfl⟩
  rw [← hbe] at hck he hsameb
  have hinf1 := Lib.hid (tag_info hT1l)
  have hinf2 := Lib.hid (tag_info hT2l)
  have hinfK := Lib.hid (keys_info #[.string seed, .int .i64 (4096 : Nat)] rfl)
  unfold RetTag at hsg hs1 hs2
  have hmI : wrap64 ((IntKind.u64.wrap a).tmod 4096) = (m : Int) := by
    rw [ha, Int.tmod_eq_emod_of_nonneg (by omega)]
    unfold wrap64
    omega
  have hnI : wrap64 ((IntKind.u64.wrap b').tmod 4096) = (n : Int) := by
    rw [hb, Int.tmod_eq_emod_of_nonneg (by omega)]
    unfold wrap64
    omega
  have h1' : (seed.size : Int) ≤ 64 := by omega
  have h2' : (x.size : Int) ≤ 2000 := by omega
  have h3' : (y.size : Int) ≤ 2000 := by omega
  clear hT1 hT2 e1 e2 e3 e4 hbe hsame
  replace ha := Lib.hid ha
  replace hb := Lib.hid hb
  replace hm := Lib.hid hm
  replace hn := Lib.hid hn
  replace hmI := Lib.hid hmI
  replace hnI := Lib.hid hnI
  replace hsg := Lib.hid hsg
  replace hs1 := Lib.hid hs1
  replace hs2 := Lib.hid hs2
  replace hck := Lib.hid hck
  replace he := Lib.hid he
  replace hT1l := Lib.hid hT1l
  replace hT2l := Lib.hid hT2l
  replace hsameb := Lib.hid hsameb
  go_enter Try.func14, Try.ntmps14
  go_wp2_with fail
  refine (hd.out _).mono ?_
  rintro e w1 ⟨p, rfl, hka, hk1⟩
  replace hka := Lib.hid hka
  replace hk1 := Lib.hid hk1
  go_wp2_with fail
  refine (hr.out _).mono ?_
  rintro e w2' ⟨rfl, hk2⟩
  replace hk2 := Lib.hid hk2
  go_upto_region 5 with fail
  have hb3 := heap_alloc_new w2' (.cells #[.string seed, .int .i64 (4096 : Nat)] 101)
  have hs3 : Same w2' (w2'.alloc (.cells #[.string seed, .int .i64 (4096 : Nat)] 101)) := Same.refl.alloc _
  obtain ⟨w2, hw2⟩ : ∃ w3, w3 = w2'.alloc (.cells #[.string seed, .int .i64 (4096 : Nat)] 101) := ⟨_, rfl⟩
  rw [← hw2] at hb3 hs3
  try rw [show w2'.alloc (.cells #[.string seed, .int .i64 4096] 101) = w2 from hw2.symm]
  have hk12 := hk2.out.trans hs3
  have hka2 := hka.out.same hk12
  have hw02 := hk1.out.trans hk12
  have hb3l := blk_lt hb3
  clear hw2 hs3 hk2 hka hk1 hk12
  replace hb3 := Lib.hid hb3
  replace hka2 := Lib.hid hka2
  replace hw02 := Lib.hid hw02
  go_upto_region 6 with fail
  rw [hmI.out, hnI.out]
  have hsg2 := Lib.hid (hsg.out _ _ hka2.out)
  go_wp2_with fail
  refine hsg2.out.mono ?_
  rintro e w3 ⟨rfl, hc3⟩
  replace hc3 := Lib.hid hc3
  go_upto_region 7 with (first | (refine alloc_new rfl 91 rfl (bv noTag).toArray (by kernel_rfl) ?_; intro w4 hbN hsN; have hbNl := blk_lt hbN; replace hbN := Lib.hid hbN; replace hsN := Lib.hid hsN) | (refine store_row rfl _ _ _ rfl w3.heap.size _ rfl rfl _ _ hbN.out hinf1.out (by rw [List.size_toArray, List.size_toArray, bv_length, bv_length, hT1l.out]; rfl) (by simpa using bv_cell) ?_; intro w5 hbA0 hkN))
  have hsC : Same w3 w5 := hsN.out.keep hkN (fun x hx hv => by omega)
  clear hkN hsN hbN
  have hs25 := hc3.out.trans hsC
  have hbK5 := (hs25.block _ hb3l).trans hb3.out
  have hz3 := hc3.out.size
  have hz5 := hsC.size
  have hbA0l := blk_lt hbA0
  clear hsC hc3 hsg2
  replace hs25 := Lib.hid hs25
  replace hbK5 := Lib.hid hbK5
  replace hbA0 := Lib.hid hbA0
  go_simp
  go_wp2_with (refine load_row rfl _ _ rfl w2'.heap.size rfl _ _ _ _ hbK5.out Try.underlying101 rfl hinfK.out ?_)
  refine (hs1.out _).mono ?_
  rintro e w6 ⟨rfl, hc6⟩
  have hz6 := hc6.size
  replace hc6 := Lib.hid hc6
  go_upto_region 8 with (first | (refine alloc_new rfl 91 rfl (bv noTag).toArray (by kernel_rfl) ?_; intro w7 hbN hsN; have hbNl := blk_lt hbN; replace hbN := Lib.hid hbN; replace hsN := Lib.hid hsN) | (refine store_row rfl _ _ _ rfl w6.heap.size _ rfl rfl _ _ hbN.out hinf1.out (by rw [List.size_toArray, List.size_toArray, bv_length, bv_length, hT1l.out]; rfl) (by simpa using bv_cell) ?_; intro w8 hbB0 hkN))
  have hsC : Same w6 w8 := hsN.out.keep hkN (fun x hx hv => by omega)
  clear hkN hsN hbN
  have hs58 := hc6.out.trans hsC
  have hbK8 := (hs58.block _ (blk_lt hbK5.out)).trans hbK5.out
  have hbA8 := (hs58.block _ hbA0l).trans hbA0.out
  have hz8 := hsC.size
  have hbB0l := blk_lt hbB0
  clear hsC hc6 hbK5 hbA0
  replace hs58 := Lib.hid hs58
  replace hbK8 := Lib.hid hbK8
  replace hbA8 := Lib.hid hbA8
  replace hbB0 := Lib.hid hbB0
  go_simp
  go_wp2_with (refine load_row rfl _ _ rfl w2'.heap.size rfl _ _ _ _ hbK8.out Try.underlying101 rfl hinfK.out ?_)
  refine (hs2.out _).mono ?_
  rintro e w9 ⟨rfl, hc9⟩
  have hz9 := hc9.size
  replace hc9 := Lib.hid hc9
  go_upto_region 9 with (first | (refine alloc_new rfl 91 rfl (bv noTag).toArray (by kernel_rfl) ?_; intro wa hbN hsN; have hbNl := blk_lt hbN; replace hbN := Lib.hid hbN; replace hsN := Lib.hid hsN) | (refine store_row rfl _ _ _ rfl w9.heap.size _ rfl rfl _ _ hbN.out hinf2.out (by rw [List.size_toArray, List.size_toArray, bv_length, bv_length, hT2l.out]; rfl) (by simpa using bv_cell) ?_; intro wb hbC hkN))
  have hsC : Same w9 wb := hsN.out.keep hkN (fun x hx hv => by omega)
  clear hkN hsN hbN
  have hs8b := hc9.out.trans hsC
  have hbA := (hs8b.block _ (blk_lt hbA8.out)).trans hbA8.out
  have hbB := (hs8b.block _ hbB0l).trans hbB0.out
  have hs2b := (hs25.out.trans hs58.out).trans hs8b
  have hkaz := hka2.out.same hs2b
  have hw9 := hw02.out.trans hs2b
  have hbAl := blk_lt hbA
  have hbBl := blk_lt hbB
  have hbCl := blk_lt hbC
  clear hsC hc9 hbK8 hbA8 hbB0 hs25 hs58 hs8b hs2b hka2 hw02 hb3
  replace hbA := Lib.hid hbA
  replace hbB := Lib.hid hbB
  replace hbC := Lib.hid hbC
  replace hkaz := Lib.hid hkaz
  replace hw9 := Lib.hid hw9
  go_simp
  go_upto_region 11 with fail
  by_cases hmn : m = n
  · have hne : ((m : Int) != (n : Int)) = false := by simp [hmn]
    by_cases hxy : x = y
    · have hbt := hsameb.out hmn hxy
      have hse : (x.toList != y.toList) = false := by simp [hxy]
      have hse2 : (x.toList == y.toList) = true := by simp [hxy]
      clear hmn hxy
      replace hbt := Lib.hid hbt
      refine wp_region_tails (by kernel_rfl) [(74, 0), (75, 1), (76, 2), (77, 3), (78, 4), (79, 5), (80, 6), (81, 7), (82, 8), (83, 9), (84, 10), (85, 11), (86, 12), (87, 13), (88, 14), (89, 15), (90, 16), (91, 17), (92, 18), (93, 19), (94, 20), (95, 21), (96, 22), (97, 23), (98, 24), (99, 25), (100, 26), (101, 27), (102, 28)] Same (Same _) [isV (.pointer (some p)), isV (.int .i64 (n : Int)), isV (.string y), isV (.agg (bv T1).toArray), isV (.bool b), isV (.agg (bv T1).toArray), isV (.agg (bv T2).toArray), isV (.bool b), isV (.bool true), isV (.bool true), isV (.int .i64 (m : Int)), isV (.int .i64 (n : Int)), isV (.bool false), isV (.bool false), isV (.string x), isV (.string y), isV (.bool false), isV (.bool false), isV (.bool false), isV (.pointer (some p)), isV (.int .i64 (n : Int)), isV (.string y), isV (.agg (bv T1).toArray), isV (.bool true), isV (.bool true), isV (.bool true), isV (.bool true), isV (.bool true), isV (.bool true)] Same.refl.drew (fun _ _ h k => h.trans k) (by simp [isV_stable, isB_stable, isAny_stable]) (by decide) (l := [_, _, _, _, _, _, _, _, _, _, _, _, _, _, _, _, _, _, _, _, _, _, _, _, _, _, _, _, _]) rfl (by decide) (by kernel_rfl) ?_ ?_
      · refine ⟨?_, ?_, ?_, ?_, ?_, ?_, ?_, ?_, ?_, ?_, ?_, ?_, ?_, ?_, ?_, ?_, ?_, ?_, ?_, ?_, ?_, ?_, ?_, ?_, ?_, ?_, ?_, ?_, ?_, trivial⟩
        all_goals (intro u wx hI hp; simp only [mkAct, List.foldl_cons, List.foldl_nil, List.setIfInBounds_toArray, List.set_cons_succ, List.set_cons_zero])
        · -- operation 0
          go_wp2
          refine stq_v rfl Same.refl ?_
          first | (simp only [mkAct, List.foldl_cons, List.foldl_nil, List.setIfInBounds_toArray, List.set_cons_succ, List.set_cons_zero, upd, reduceIte, Nat.reduceEqDiff, Nat.reduceAdd, str]; done) | (simp [mkAct, upd, str, *]; done)
        · -- operation 1
          go_wp2
          refine stq_v rfl Same.refl ?_
          first | (simp only [mkAct, List.foldl_cons, List.foldl_nil, List.setIfInBounds_toArray, List.set_cons_succ, List.set_cons_zero, upd, reduceIte, Nat.reduceEqDiff, Nat.reduceAdd, str]; done) | (simp [mkAct, upd, str, *]; done)
        · -- operation 2
          go_wp2
          refine stq_v rfl Same.refl ?_
          first | (simp only [mkAct, List.foldl_cons, List.foldl_nil, List.setIfInBounds_toArray, List.set_cons_succ, List.set_cons_zero, upd, reduceIte, Nat.reduceEqDiff, Nat.reduceAdd, str]; done) | (simp [mkAct, upd, str, *]; done)
        · -- operation 3
          go_wp2_with (refine load_row rfl _ _ rfl w3.heap.size rfl _ _ _ _ ((hI.block _ hbAl).trans hbA.out) Try.underlying91 rfl hinf1.out ?_)
          refine stq_v rfl Same.refl ?_
          first | (simp only [mkAct, List.foldl_cons, List.foldl_nil, List.setIfInBounds_toArray, List.set_cons_succ, List.set_cons_zero, upd, reduceIte, Nat.reduceEqDiff, Nat.reduceAdd, str]; done) | (simp [mkAct, upd, str, *]; done)
        · -- operation 4
          obtain ⟨f0, f1, f2, f3, -⟩ := hp
          replace f0 : u 0 = (.pointer (some p)) := f0
          replace f1 : u 1 = (.int .i64 (n : Int)) := f1
          replace f2 : u 2 = (.string y) := f2
          replace f3 : u 3 = (.agg (bv T1).toArray) := f3
          try simp only [f0, f1, f2, f3, str]
          go_wp2_with fail
          refine (hck.out _ _ (hkaz.out.same hI)).mono ?_
          rintro e w1 ⟨rfl, hs'⟩
          go_wp2
          refine stq_v rfl hs' ?_
          first | (simp only [mkAct, List.foldl_cons, List.foldl_nil, List.setIfInBounds_toArray, List.set_cons_succ, List.set_cons_zero, upd, reduceIte, Nat.reduceEqDiff, Nat.reduceAdd, f0, f1, f2, f3, str]; done) | (simp [mkAct, upd, f0, f1, f2, f3, str, *]; done)
        · -- operation 5
          go_wp2_with (refine load_row rfl _ _ rfl w6.heap.size rfl _ _ _ _ ((hI.block _ hbBl).trans hbB.out) Try.underlying91 rfl hinf1.out ?_)
          refine stq_v rfl Same.refl ?_
          first | (simp only [mkAct, List.foldl_cons, List.foldl_nil, List.setIfInBounds_toArray, List.set_cons_succ, List.set_cons_zero, upd, reduceIte, Nat.reduceEqDiff, Nat.reduceAdd, str]; done) | (simp [mkAct, upd, str, *]; done)
        · -- operation 6
          go_wp2_with (refine load_row rfl _ _ rfl w9.heap.size rfl _ _ _ _ ((hI.block _ hbCl).trans hbC.out) Try.underlying91 rfl hinf2.out ?_)
          refine stq_v rfl Same.refl ?_
          first | (simp only [mkAct, List.foldl_cons, List.foldl_nil, List.setIfInBounds_toArray, List.set_cons_succ, List.set_cons_zero, upd, reduceIte, Nat.reduceEqDiff, Nat.reduceAdd, str]; done) | (simp [mkAct, upd, str, *]; done)
        · -- operation 7
          obtain ⟨f5, f6, -⟩ := hp
          replace f5 : u 5 = (.agg (bv T1).toArray) := f5
          replace f6 : u 6 = (.agg (bv T2).toArray) := f6
          try simp only [f5, f6, str]
          have he := he.out
          have hgd := tag_guard
          go_wp2
          refine stq_v rfl Same.refl ?_
          first | (simp only [mkAct, List.foldl_cons, List.foldl_nil, List.setIfInBounds_toArray, List.set_cons_succ, List.set_cons_zero, upd, reduceIte, Nat.reduceEqDiff, Nat.reduceAdd, f5, f6, str]; done) | (simp [mkAct, upd, f5, f6, str, *]; done)
        · -- operation 8
          obtain ⟨f4, f7, -⟩ := hp
          replace f4 : u 4 = (.bool b) := f4
          replace f7 : u 7 = (.bool b) := f7
          try simp only [f4, f7, str]
          go_wp2
          refine stq_v rfl Same.refl ?_
          first | (simp only [mkAct, List.foldl_cons, List.foldl_nil, List.setIfInBounds_toArray, List.set_cons_succ, List.set_cons_zero, upd, reduceIte, Nat.reduceEqDiff, Nat.reduceAdd, f4, f7, str]; done) | (simp [mkAct, upd, f4, f7, str, *]; done)
        · -- operation 9
          obtain ⟨f8, -, -⟩ := hp
          replace f8 : u 8 = (.bool true) := f8
          try simp only [f8, str]
          go_wp2
          refine stq_v rfl Same.refl ?_
          first | (simp only [mkAct, List.foldl_cons, List.foldl_nil, List.setIfInBounds_toArray, List.set_cons_succ, List.set_cons_zero, upd, reduceIte, Nat.reduceEqDiff, Nat.reduceAdd, f8, str]; done) | (simp [mkAct, upd, f8, str, *]; done)
        · -- operation 10
          obtain ⟨f9, -⟩ := hp
          replace f9 : u 9 = (.bool true) := f9
          try simp only [f9, str]
          go_wp2
          refine stq_v rfl Same.refl ?_
          first | (simp only [mkAct, List.foldl_cons, List.foldl_nil, List.setIfInBounds_toArray, List.set_cons_succ, List.set_cons_zero, upd, reduceIte, Nat.reduceEqDiff, Nat.reduceAdd, f9, str]; done) | (simp [mkAct, upd, f9, str, *]; done)
        · -- operation 11
          obtain ⟨f9, -⟩ := hp
          replace f9 : u 9 = (.bool true) := f9
          try simp only [f9, str]
          go_wp2
          refine stq_v rfl Same.refl ?_
          first | (simp only [mkAct, List.foldl_cons, List.foldl_nil, List.setIfInBounds_toArray, List.set_cons_succ, List.set_cons_zero, upd, reduceIte, Nat.reduceEqDiff, Nat.reduceAdd, f9, str]; done) | (simp [mkAct, upd, f9, str, *]; done)
        · -- operation 12
          obtain ⟨f10, f11, f9, -⟩ := hp
          replace f10 : u 10 = (.int .i64 (m : Int)) := f10
          replace f11 : u 11 = (.int .i64 (n : Int)) := f11
          replace f9 : u 9 = (.bool true) := f9
          try simp only [f10, f11, f9, str]
          go_wp2
          refine stq_v rfl Same.refl ?_
          first | (simp only [mkAct, List.foldl_cons, List.foldl_nil, List.setIfInBounds_toArray, List.set_cons_succ, List.set_cons_zero, upd, reduceIte, Nat.reduceEqDiff, Nat.reduceAdd, f10, f11, f9, str]; done) | (simp [mkAct, upd, f10, f11, f9, str, *]; done)
        · -- operation 13
          obtain ⟨f12, -, f9, -⟩ := hp
          replace f12 : u 12 = (.bool false) := f12
          replace f9 : u 9 = (.bool true) := f9
          try simp only [f12, f9, str]
          go_wp2
          refine stq_v rfl Same.refl ?_
          first | (simp only [mkAct, List.foldl_cons, List.foldl_nil, List.setIfInBounds_toArray, List.set_cons_succ, List.set_cons_zero, upd, reduceIte, Nat.reduceEqDiff, Nat.reduceAdd, f12, f9, str]; done) | (simp [mkAct, upd, f12, f9, str, *]; done)
        · -- operation 14
          obtain ⟨f13, -⟩ := hp
          replace f13 : u 13 = (.bool false) := f13
          try simp only [f13, str]
          go_wp2
          refine stq_v rfl Same.refl ?_
          first | (simp only [mkAct, List.foldl_cons, List.foldl_nil, List.setIfInBounds_toArray, List.set_cons_succ, List.set_cons_zero, upd, reduceIte, Nat.reduceEqDiff, Nat.reduceAdd, f13, str]; done) | (simp [mkAct, upd, f13, str, *]; done)
        · -- operation 15
          obtain ⟨f13, -⟩ := hp
          replace f13 : u 13 = (.bool false) := f13
          try simp only [f13, str]
          go_wp2
          refine stq_v rfl Same.refl ?_
          first | (simp only [mkAct, List.foldl_cons, List.foldl_nil, List.setIfInBounds_toArray, List.set_cons_succ, List.set_cons_zero, upd, reduceIte, Nat.reduceEqDiff, Nat.reduceAdd, f13, str]; done) | (simp [mkAct, upd, f13, str, *]; done)
        · -- operation 16
          obtain ⟨f14, f15, f13, -⟩ := hp
          replace f14 : u 14 = (.string x) := f14
          replace f15 : u 15 = (.string y) := f15
          replace f13 : u 13 = (.bool false) := f13
          try simp only [f14, f15, f13, str]
          go_wp2
          refine stq_v rfl Same.refl ?_
          first | (simp only [mkAct, List.foldl_cons, List.foldl_nil, List.setIfInBounds_toArray, List.set_cons_succ, List.set_cons_zero, upd, reduceIte, Nat.reduceEqDiff, Nat.reduceAdd, f14, f15, f13, str]; done) | (simp [mkAct, upd, f14, f15, f13, str, *]; done)
        · -- operation 17
          obtain ⟨f13, f16, f9, -⟩ := hp
          replace f13 : u 13 = (.bool false) := f13
          replace f16 : u 16 = (.bool false) := f16
          replace f9 : u 9 = (.bool true) := f9
          try simp only [f13, f16, f9, str]
          go_wp2
          refine stq_v rfl Same.refl ?_
          first | (simp only [mkAct, List.foldl_cons, List.foldl_nil, List.setIfInBounds_toArray, List.set_cons_succ, List.set_cons_zero, upd, reduceIte, Nat.reduceEqDiff, Nat.reduceAdd, f13, f16, f9, str]; done) | (simp [mkAct, upd, f13, f16, f9, str, *]; done)
        · -- operation 18
          obtain ⟨f17, -, f9, -⟩ := hp
          replace f17 : u 17 = (.bool false) := f17
          replace f9 : u 9 = (.bool true) := f9
          try simp only [f17, f9, str]
          go_wp2
          refine stq_v rfl Same.refl ?_
          first | (simp only [mkAct, List.foldl_cons, List.foldl_nil, List.setIfInBounds_toArray, List.set_cons_succ, List.set_cons_zero, upd, reduceIte, Nat.reduceEqDiff, Nat.reduceAdd, f17, f9, str]; done) | (simp [mkAct, upd, f17, f9, str, *]; done)
        · -- operation 19
          obtain ⟨f18, -⟩ := hp
          replace f18 : u 18 = (.bool false) := f18
          try simp only [f18, str]
          go_wp2
          refine stq_v rfl Same.refl ?_
          first | (simp only [mkAct, List.foldl_cons, List.foldl_nil, List.setIfInBounds_toArray, List.set_cons_succ, List.set_cons_zero, upd, reduceIte, Nat.reduceEqDiff, Nat.reduceAdd, f18, str]; done) | (simp [mkAct, upd, f18, str, *]; done)
        · -- operation 20
          obtain ⟨f18, -⟩ := hp
          replace f18 : u 18 = (.bool false) := f18
          try simp only [f18, str]
          go_wp2
          refine stq_v rfl Same.refl ?_
          first | (simp only [mkAct, List.foldl_cons, List.foldl_nil, List.setIfInBounds_toArray, List.set_cons_succ, List.set_cons_zero, upd, reduceIte, Nat.reduceEqDiff, Nat.reduceAdd, f18, str]; done) | (simp [mkAct, upd, f18, str, *]; done)
        · -- operation 21
          obtain ⟨f18, -⟩ := hp
          replace f18 : u 18 = (.bool false) := f18
          try simp only [f18, str]
          go_wp2
          refine stq_v rfl Same.refl ?_
          first | (simp only [mkAct, List.foldl_cons, List.foldl_nil, List.setIfInBounds_toArray, List.set_cons_succ, List.set_cons_zero, upd, reduceIte, Nat.reduceEqDiff, Nat.reduceAdd, f18, str]; done) | (simp [mkAct, upd, f18, str, *]; done)
        · -- operation 22
          obtain ⟨f18, -⟩ := hp
          replace f18 : u 18 = (.bool false) := f18
          try simp only [f18, str]
          go_wp2_with (refine load_row rfl _ _ rfl w3.heap.size rfl _ _ _ _ ((hI.block _ hbAl).trans hbA.out) Try.underlying91 rfl hinf1.out ?_)
          refine stq_v rfl Same.refl ?_
          first | (simp only [mkAct, List.foldl_cons, List.foldl_nil, List.setIfInBounds_toArray, List.set_cons_succ, List.set_cons_zero, upd, reduceIte, Nat.reduceEqDiff, Nat.reduceAdd, f18, str]; done) | (simp [mkAct, upd, f18, str, *]; done)
        · -- operation 23
          obtain ⟨f19, f20, f21, f22, -, f18, -⟩ := hp
          replace f19 : u 19 = (.pointer (some p)) := f19
          replace f20 : u 20 = (.int .i64 (n : Int)) := f20
          replace f21 : u 21 = (.string y) := f21
          replace f22 : u 22 = (.agg (bv T1).toArray) := f22
          replace f18 : u 18 = (.bool false) := f18
          try simp only [f19, f20, f21, f22, f18, str]
          have hck3 := hck.out _ _ (hkaz.out.same hI)
          rw [hbt.out] at hck3
          go_wp2_with fail
          refine (hck3).mono ?_
          rintro e w1 ⟨rfl, hs'⟩
          go_wp2
          refine stq_v rfl hs' ?_
          first | (simp only [mkAct, List.foldl_cons, List.foldl_nil, List.setIfInBounds_toArray, List.set_cons_succ, List.set_cons_zero, upd, reduceIte, Nat.reduceEqDiff, Nat.reduceAdd, f19, f20, f21, f22, f18, str]; done) | (simp [mkAct, upd, f19, f20, f21, f22, f18, str, *]; done)
        · -- operation 24
          obtain ⟨f18, f23, f9, -⟩ := hp
          replace f18 : u 18 = (.bool false) := f18
          replace f23 : u 23 = (.bool true) := f23
          replace f9 : u 9 = (.bool true) := f9
          try simp only [f18, f23, f9, str]
          go_wp2
          refine stq_v rfl Same.refl ?_
          first | (simp only [mkAct, List.foldl_cons, List.foldl_nil, List.setIfInBounds_toArray, List.set_cons_succ, List.set_cons_zero, upd, reduceIte, Nat.reduceEqDiff, Nat.reduceAdd, f18, f23, f9, str]; done) | (simp [mkAct, upd, f18, f23, f9, str, *]; done)
        · -- operation 25
          obtain ⟨f9, f24, -⟩ := hp
          replace f9 : u 9 = (.bool true) := f9
          replace f24 : u 24 = (.bool true) := f24
          try simp only [f9, f24, str]
          go_wp2
          refine stq_v rfl Same.refl ?_
          first | (simp only [mkAct, List.foldl_cons, List.foldl_nil, List.setIfInBounds_toArray, List.set_cons_succ, List.set_cons_zero, upd, reduceIte, Nat.reduceEqDiff, Nat.reduceAdd, f9, f24, str]; done) | (simp [mkAct, upd, f9, f24, str, *]; done)
        · -- operation 26
          obtain ⟨f25, -, -⟩ := hp
          replace f25 : u 25 = (.bool true) := f25
          try simp only [f25, str]
          go_wp2
          refine stq_v rfl Same.refl ?_
          first | (simp only [mkAct, List.foldl_cons, List.foldl_nil, List.setIfInBounds_toArray, List.set_cons_succ, List.set_cons_zero, upd, reduceIte, Nat.reduceEqDiff, Nat.reduceAdd, f25, str]; done) | (simp [mkAct, upd, f25, str, *]; done)
        · -- operation 27
          obtain ⟨-, f26, -⟩ := hp
          replace f26 : u 26 = (.bool true) := f26
          try simp only [f26, str]
          go_wp2_with fail
          refine (hl.out _).mono ?_
          rintro e w1 ⟨rfl, hs'⟩
          go_wp2
          refine stq_v rfl hs' ?_
          first | (simp only [mkAct, List.foldl_cons, List.foldl_nil, List.setIfInBounds_toArray, List.set_cons_succ, List.set_cons_zero, upd, reduceIte, Nat.reduceEqDiff, Nat.reduceAdd, f26, str]; done) | (simp [mkAct, upd, f26, str, *]; done)
        · -- operation 28
          obtain ⟨f26, f27, -⟩ := hp
          replace f26 : u 26 = (.bool true) := f26
          replace f27 : u 27 = (.bool true) := f27
          try simp only [f26, f27, str]
          go_wp2
          refine stq_v rfl Same.refl ?_
          first | (simp only [mkAct, List.foldl_cons, List.foldl_nil, List.setIfInBounds_toArray, List.set_cons_succ, List.set_cons_zero, upd, reduceIte, Nat.reduceEqDiff, Nat.reduceAdd, f26, f27, str]; done) | (simp [mkAct, upd, f26, f27, str, *]; done)
      · intro u wx hI hR
        obtain ⟨r0, r1, r2, r3, r4, r5, r6, r7, r8, r9, r10, r11, r12, r13, r14, r15, r16, r17, r18, r19, r20, r21, r22, r23, r24, r25, r26, r27, r28, -⟩ := hR
        replace r0 : u 0 = (.pointer (some p)) := r0
        replace r1 : u 1 = (.int .i64 (n : Int)) := r1
        replace r2 : u 2 = (.string y) := r2
        replace r3 : u 3 = (.agg (bv T1).toArray) := r3
        replace r4 : u 4 = (.bool b) := r4
        replace r5 : u 5 = (.agg (bv T1).toArray) := r5
        replace r6 : u 6 = (.agg (bv T2).toArray) := r6
        replace r7 : u 7 = (.bool b) := r7
        replace r8 : u 8 = (.bool true) := r8
        replace r9 : u 9 = (.bool true) := r9
        replace r10 : u 10 = (.int .i64 (m : Int)) := r10
        replace r11 : u 11 = (.int .i64 (n : Int)) := r11
        replace r12 : u 12 = (.bool false) := r12
        replace r13 : u 13 = (.bool false) := r13
        replace r14 : u 14 = (.string x) := r14
        replace r15 : u 15 = (.string y) := r15
        replace r16 : u 16 = (.bool false) := r16
        replace r17 : u 17 = (.bool false) := r17
        replace r18 : u 18 = (.bool false) := r18
        replace r19 : u 19 = (.pointer (some p)) := r19
        replace r20 : u 20 = (.int .i64 (n : Int)) := r20
        replace r21 : u 21 = (.string y) := r21
        replace r22 : u 22 = (.agg (bv T1).toArray) := r22
        replace r23 : u 23 = (.bool true) := r23
        replace r24 : u 24 = (.bool true) := r24
        replace r25 : u 25 = (.bool true) := r25
        replace r26 : u 26 = (.bool true) := r26
        replace r27 : u 27 = (.bool true) := r27
        replace r28 : u 28 = (.bool true) := r28
        simp only [mkAct, List.foldl_cons, List.foldl_nil, List.setIfInBounds_toArray, List.set_cons_succ, List.set_cons_zero]
        try simp only [str, r0, r1, r2, r3, r4, r5, r6, r7, r8, r9, r10, r11, r12, r13, r14, r15, r16, r17, r18, r19, r20, r21, r22, r23, r24, r25, r26, r27, r28]
        go_wp2
        go_ret
        exact ⟨rfl, hw9.out.trans hI⟩
    · have hse2 : (x.toList == y.toList) = false := by
        rw [beq_eq_false_iff_ne]
        intro h
        exact hxy (ByteArray.ext (by simpa [ByteArray.toList_eq] using h))
      have hse : (x.toList != y.toList) = true := by rw [bne, hse2]; rfl
      clear hmn hxy
      refine wp_region_tails (by kernel_rfl) [(74, 0), (75, 1), (76, 2), (77, 3), (78, 4), (79, 5), (80, 6), (81, 7), (82, 8), (83, 9), (84, 10), (85, 11), (86, 12), (87, 13), (88, 14), (89, 15), (90, 16), (91, 17), (92, 18), (93, 19), (94, 20), (95, 21), (96, 22), (97, 23), (98, 24), (99, 25), (100, 26), (101, 27), (102, 28)] Same (Same _) [isV (.pointer (some p)), isV (.int .i64 (n : Int)), isV (.string y), isV (.agg (bv T1).toArray), isV (.bool b), isV (.agg (bv T1).toArray), isV (.agg (bv T2).toArray), isV (.bool b), isV (.bool true), isV (.bool true), isV (.int .i64 (m : Int)), isV (.int .i64 (n : Int)), isV (.bool false), isV (.bool false), isV (.string x), isV (.string y), isV (.bool true), isV (.bool true), isV (.bool true), isV undef, isV undef, isV undef, isV undef, isV undef, isV (.bool true), isV (.bool true), isV (.bool true), isV (.bool true), isV (.bool true)] Same.refl.drew (fun _ _ h k => h.trans k) (by simp [isV_stable, isB_stable, isAny_stable]) (by decide) (l := [_, _, _, _, _, _, _, _, _, _, _, _, _, _, _, _, _, _, _, _, _, _, _, _, _, _, _, _, _]) rfl (by decide) (by kernel_rfl) ?_ ?_
      · refine ⟨?_, ?_, ?_, ?_, ?_, ?_, ?_, ?_, ?_, ?_, ?_, ?_, ?_, ?_, ?_, ?_, ?_, ?_, ?_, ?_, ?_, ?_, ?_, ?_, ?_, ?_, ?_, ?_, ?_, trivial⟩
        all_goals (intro u wx hI hp; simp only [mkAct, List.foldl_cons, List.foldl_nil, List.setIfInBounds_toArray, List.set_cons_succ, List.set_cons_zero])
        · -- operation 0
          go_wp2
          refine stq_v rfl Same.refl ?_
          first | (simp only [mkAct, List.foldl_cons, List.foldl_nil, List.setIfInBounds_toArray, List.set_cons_succ, List.set_cons_zero, upd, reduceIte, Nat.reduceEqDiff, Nat.reduceAdd, str]; done) | (simp [mkAct, upd, str, *]; done)
        · -- operation 1
          go_wp2
          refine stq_v rfl Same.refl ?_
          first | (simp only [mkAct, List.foldl_cons, List.foldl_nil, List.setIfInBounds_toArray, List.set_cons_succ, List.set_cons_zero, upd, reduceIte, Nat.reduceEqDiff, Nat.reduceAdd, str]; done) | (simp [mkAct, upd, str, *]; done)
        · -- operation 2
          go_wp2
          refine stq_v rfl Same.refl ?_
          first | (simp only [mkAct, List.foldl_cons, List.foldl_nil, List.setIfInBounds_toArray, List.set_cons_succ, List.set_cons_zero, upd, reduceIte, Nat.reduceEqDiff, Nat.reduceAdd, str]; done) | (simp [mkAct, upd, str, *]; done)
        · -- operation 3
          go_wp2_with (refine load_row rfl _ _ rfl w3.heap.size rfl _ _ _ _ ((hI.block _ hbAl).trans hbA.out) Try.underlying91 rfl hinf1.out ?_)
          refine stq_v rfl Same.refl ?_
          first | (simp only [mkAct, List.foldl_cons, List.foldl_nil, List.setIfInBounds_toArray, List.set_cons_succ, List.set_cons_zero, upd, reduceIte, Nat.reduceEqDiff, Nat.reduceAdd, str]; done) | (simp [mkAct, upd, str, *]; done)
        · -- operation 4
          obtain ⟨f0, f1, f2, f3, -⟩ := hp
          replace f0 : u 0 = (.pointer (some p)) := f0
          replace f1 : u 1 = (.int .i64 (n : Int)) := f1
          replace f2 : u 2 = (.string y) := f2
          replace f3 : u 3 = (.agg (bv T1).toArray) := f3
          try simp only [f0, f1, f2, f3, str]
          go_wp2_with fail
          refine (hck.out _ _ (hkaz.out.same hI)).mono ?_
          rintro e w1 ⟨rfl, hs'⟩
          go_wp2
          refine stq_v rfl hs' ?_
          first | (simp only [mkAct, List.foldl_cons, List.foldl_nil, List.setIfInBounds_toArray, List.set_cons_succ, List.set_cons_zero, upd, reduceIte, Nat.reduceEqDiff, Nat.reduceAdd, f0, f1, f2, f3, str]; done) | (simp [mkAct, upd, f0, f1, f2, f3, str, *]; done)
        · -- operation 5
          go_wp2_with (refine load_row rfl _ _ rfl w6.heap.size rfl _ _ _ _ ((hI.block _ hbBl).trans hbB.out) Try.underlying91 rfl hinf1.out ?_)
          refine stq_v rfl Same.refl ?_
          first | (simp only [mkAct, List.foldl_cons, List.foldl_nil, List.setIfInBounds_toArray, List.set_cons_succ, List.set_cons_zero, upd, reduceIte, Nat.reduceEqDiff, Nat.reduceAdd, str]; done) | (simp [mkAct, upd, str, *]; done)
        · -- operation 6
          go_wp2_with (refine load_row rfl _ _ rfl w9.heap.size rfl _ _ _ _ ((hI.block _ hbCl).trans hbC.out) Try.underlying91 rfl hinf2.out ?_)
          refine stq_v rfl Same.refl ?_
          first | (simp only [mkAct, List.foldl_cons, List.foldl_nil, List.setIfInBounds_toArray, List.set_cons_succ, List.set_cons_zero, upd, reduceIte, Nat.reduceEqDiff, Nat.reduceAdd, str]; done) | (simp [mkAct, upd, str, *]; done)
        · -- operation 7
          obtain ⟨f5, f6, -⟩ := hp
          replace f5 : u 5 = (.agg (bv T1).toArray) := f5
          replace f6 : u 6 = (.agg (bv T2).toArray) := f6
          try simp only [f5, f6, str]
          have he := he.out
          have hgd := tag_guard
          go_wp2
          refine stq_v rfl Same.refl ?_
          first | (simp only [mkAct, List.foldl_cons, List.foldl_nil, List.setIfInBounds_toArray, List.set_cons_succ, List.set_cons_zero, upd, reduceIte, Nat.reduceEqDiff, Nat.reduceAdd, f5, f6, str]; done) | (simp [mkAct, upd, f5, f6, str, *]; done)
        · -- operation 8
          obtain ⟨f4, f7, -⟩ := hp
          replace f4 : u 4 = (.bool b) := f4
          replace f7 : u 7 = (.bool b) := f7
          try simp only [f4, f7, str]
          go_wp2
          refine stq_v rfl Same.refl ?_
          first | (simp only [mkAct, List.foldl_cons, List.foldl_nil, List.setIfInBounds_toArray, List.set_cons_succ, List.set_cons_zero, upd, reduceIte, Nat.reduceEqDiff, Nat.reduceAdd, f4, f7, str]; done) | (simp [mkAct, upd, f4, f7, str, *]; done)
        · -- operation 9
          obtain ⟨f8, -, -⟩ := hp
          replace f8 : u 8 = (.bool true) := f8
          try simp only [f8, str]
          go_wp2
          refine stq_v rfl Same.refl ?_
          first | (simp only [mkAct, List.foldl_cons, List.foldl_nil, List.setIfInBounds_toArray, List.set_cons_succ, List.set_cons_zero, upd, reduceIte, Nat.reduceEqDiff, Nat.reduceAdd, f8, str]; done) | (simp [mkAct, upd, f8, str, *]; done)
        · -- operation 10
          obtain ⟨f9, -⟩ := hp
          replace f9 : u 9 = (.bool true) := f9
          try simp only [f9, str]
          go_wp2
          refine stq_v rfl Same.refl ?_
          first | (simp only [mkAct, List.foldl_cons, List.foldl_nil, List.setIfInBounds_toArray, List.set_cons_succ, List.set_cons_zero, upd, reduceIte, Nat.reduceEqDiff, Nat.reduceAdd, f9, str]; done) | (simp [mkAct, upd, f9, str, *]; done)
        · -- operation 11
          obtain ⟨f9, -⟩ := hp
          replace f9 : u 9 = (.bool true) := f9
          try simp only [f9, str]
          go_wp2
          refine stq_v rfl Same.refl ?_
          first | (simp only [mkAct, List.foldl_cons, List.foldl_nil, List.setIfInBounds_toArray, List.set_cons_succ, List.set_cons_zero, upd, reduceIte, Nat.reduceEqDiff, Nat.reduceAdd, f9, str]; done) | (simp [mkAct, upd, f9, str, *]; done)
        · -- operation 12
          obtain ⟨f10, f11, f9, -⟩ := hp
          replace f10 : u 10 = (.int .i64 (m : Int)) := f10
          replace f11 : u 11 = (.int .i64 (n : Int)) := f11
          replace f9 : u 9 = (.bool true) := f9
          try simp only [f10, f11, f9, str]
          go_wp2
          refine stq_v rfl Same.refl ?_
          first | (simp only [mkAct, List.foldl_cons, List.foldl_nil, List.setIfInBounds_toArray, List.set_cons_succ, List.set_cons_zero, upd, reduceIte, Nat.reduceEqDiff, Nat.reduceAdd, f10, f11, f9, str]; done) | (simp [mkAct, upd, f10, f11, f9, str, *]; done)
        · -- operation 13
          obtain ⟨f12, -, f9, -⟩ := hp
          replace f12 : u 12 = (.bool false) := f12
          replace f9 : u 9 = (.bool true) := f9
          try simp only [f12, f9, str]
          go_wp2
          refine stq_v rfl Same.refl ?_
          first | (simp only [mkAct, List.foldl_cons, List.foldl_nil, List.setIfInBounds_toArray, List.set_cons_succ, List.set_cons_zero, upd, reduceIte, Nat.reduceEqDiff, Nat.reduceAdd, f12, f9, str]; done) | (simp [mkAct, upd, f12, f9, str, *]; done)
        · -- operation 14
          obtain ⟨f13, -⟩ := hp
          replace f13 : u 13 = (.bool false) := f13
          try simp only [f13, str]
          go_wp2
          refine stq_v rfl Same.refl ?_
          first | (simp only [mkAct, List.foldl_cons, List.foldl_nil, List.setIfInBounds_toArray, List.set_cons_succ, List.set_cons_zero, upd, reduceIte, Nat.reduceEqDiff, Nat.reduceAdd, f13, str]; done) | (simp [mkAct, upd, f13, str, *]; done)
        · -- operation 15
          obtain ⟨f13, -⟩ := hp
          replace f13 : u 13 = (.bool false) := f13
          try simp only [f13, str]
          go_wp2
          refine stq_v rfl Same.refl ?_
          first | (simp only [mkAct, List.foldl_cons, List.foldl_nil, List.setIfInBounds_toArray, List.set_cons_succ, List.set_cons_zero, upd, reduceIte, Nat.reduceEqDiff, Nat.reduceAdd, f13, str]; done) | (simp [mkAct, upd, f13, str, *]; done)
        · -- operation 16
          obtain ⟨f14, f15, f13, -⟩ := hp
          replace f14 : u 14 = (.string x) := f14
          replace f15 : u 15 = (.string y) := f15
          replace f13 : u 13 = (.bool false) := f13
          try simp only [f14, f15, f13, str]
          go_wp2
          refine stq_v rfl Same.refl ?_
          first | (simp only [mkAct, List.foldl_cons, List.foldl_nil, List.setIfInBounds_toArray, List.set_cons_succ, List.set_cons_zero, upd, reduceIte, Nat.reduceEqDiff, Nat.reduceAdd, f14, f15, f13, str]; done) | (simp [mkAct, upd, f14, f15, f13, str, *]; done)
        · -- operation 17
          obtain ⟨f13, f16, f9, -⟩ := hp
          replace f13 : u 13 = (.bool false) := f13
          replace f16 : u 16 = (.bool true) := f16
          replace f9 : u 9 = (.bool true) := f9
          try simp only [f13, f16, f9, str]
          go_wp2
          refine stq_v rfl Same.refl ?_
          first | (simp only [mkAct, List.foldl_cons, List.foldl_nil, List.setIfInBounds_toArray, List.set_cons_succ, List.set_cons_zero, upd, reduceIte, Nat.reduceEqDiff, Nat.reduceAdd, f13, f16, f9, str]; done) | (simp [mkAct, upd, f13, f16, f9, str, *]; done)
        · -- operation 18
          obtain ⟨f17, -, f9, -⟩ := hp
          replace f17 : u 17 = (.bool true) := f17
          replace f9 : u 9 = (.bool true) := f9
          try simp only [f17, f9, str]
          go_wp2
          refine stq_v rfl Same.refl ?_
          first | (simp only [mkAct, List.foldl_cons, List.foldl_nil, List.setIfInBounds_toArray, List.set_cons_succ, List.set_cons_zero, upd, reduceIte, Nat.reduceEqDiff, Nat.reduceAdd, f17, f9, str]; done) | (simp [mkAct, upd, f17, f9, str, *]; done)
        · -- operation 19
          obtain ⟨f18, -⟩ := hp
          replace f18 : u 18 = (.bool true) := f18
          try simp only [f18, str]
          go_wp2
          refine stq_v rfl Same.refl ?_
          first | (simp only [mkAct, List.foldl_cons, List.foldl_nil, List.setIfInBounds_toArray, List.set_cons_succ, List.set_cons_zero, upd, reduceIte, Nat.reduceEqDiff, Nat.reduceAdd, f18, str]; done) | (simp [mkAct, upd, f18, str, *]; done)
        · -- operation 20
          obtain ⟨f18, -⟩ := hp
          replace f18 : u 18 = (.bool true) := f18
          try simp only [f18, str]
          go_wp2
          refine stq_v rfl Same.refl ?_
          first | (simp only [mkAct, List.foldl_cons, List.foldl_nil, List.setIfInBounds_toArray, List.set_cons_succ, List.set_cons_zero, upd, reduceIte, Nat.reduceEqDiff, Nat.reduceAdd, f18, str]; done) | (simp [mkAct, upd, f18, str, *]; done)
        · -- operation 21
          obtain ⟨f18, -⟩ := hp
          replace f18 : u 18 = (.bool true) := f18
          try simp only [f18, str]
          go_wp2
          refine stq_v rfl Same.refl ?_
          first | (simp only [mkAct, List.foldl_cons, List.foldl_nil, List.setIfInBounds_toArray, List.set_cons_succ, List.set_cons_zero, upd, reduceIte, Nat.reduceEqDiff, Nat.reduceAdd, f18, str]; done) | (simp [mkAct, upd, f18, str, *]; done)
        · -- operation 22
          obtain ⟨f18, -⟩ := hp
          replace f18 : u 18 = (.bool true) := f18
          try simp only [f18, str]
          go_wp2
          refine stq_v rfl Same.refl ?_
          first | (simp only [mkAct, List.foldl_cons, List.foldl_nil, List.setIfInBounds_toArray, List.set_cons_succ, List.set_cons_zero, upd, reduceIte, Nat.reduceEqDiff, Nat.reduceAdd, f18, str]; done) | (simp [mkAct, upd, f18, str, *]; done)
        · -- operation 23
          obtain ⟨f19, f20, f21, f22, -, f18, -⟩ := hp
          replace f19 : u 19 = undef := f19
          replace f20 : u 20 = undef := f20
          replace f21 : u 21 = undef := f21
          replace f22 : u 22 = undef := f22
          replace f18 : u 18 = (.bool true) := f18
          try simp only [f19, f20, f21, f22, f18, str]
          go_wp2
          refine stq_v rfl Same.refl ?_
          first | (simp only [mkAct, List.foldl_cons, List.foldl_nil, List.setIfInBounds_toArray, List.set_cons_succ, List.set_cons_zero, upd, reduceIte, Nat.reduceEqDiff, Nat.reduceAdd, f19, f20, f21, f22, f18, str]; done) | (simp [mkAct, upd, f19, f20, f21, f22, f18, str, *]; done)
        · -- operation 24
          obtain ⟨f18, f23, f9, -⟩ := hp
          replace f18 : u 18 = (.bool true) := f18
          replace f23 : u 23 = undef := f23
          replace f9 : u 9 = (.bool true) := f9
          try simp only [f18, f23, f9, str]
          go_wp2
          refine stq_v rfl Same.refl ?_
          first | (simp only [mkAct, List.foldl_cons, List.foldl_nil, List.setIfInBounds_toArray, List.set_cons_succ, List.set_cons_zero, upd, reduceIte, Nat.reduceEqDiff, Nat.reduceAdd, f18, f23, f9, str]; done) | (simp [mkAct, upd, f18, f23, f9, str, *]; done)
        · -- operation 25
          obtain ⟨f9, f24, -⟩ := hp
          replace f9 : u 9 = (.bool true) := f9
          replace f24 : u 24 = (.bool true) := f24
          try simp only [f9, f24, str]
          go_wp2
          refine stq_v rfl Same.refl ?_
          first | (simp only [mkAct, List.foldl_cons, List.foldl_nil, List.setIfInBounds_toArray, List.set_cons_succ, List.set_cons_zero, upd, reduceIte, Nat.reduceEqDiff, Nat.reduceAdd, f9, f24, str]; done) | (simp [mkAct, upd, f9, f24, str, *]; done)
        · -- operation 26
          obtain ⟨f25, -, -⟩ := hp
          replace f25 : u 25 = (.bool true) := f25
          try simp only [f25, str]
          go_wp2
          refine stq_v rfl Same.refl ?_
          first | (simp only [mkAct, List.foldl_cons, List.foldl_nil, List.setIfInBounds_toArray, List.set_cons_succ, List.set_cons_zero, upd, reduceIte, Nat.reduceEqDiff, Nat.reduceAdd, f25, str]; done) | (simp [mkAct, upd, f25, str, *]; done)
        · -- operation 27
          obtain ⟨-, f26, -⟩ := hp
          replace f26 : u 26 = (.bool true) := f26
          try simp only [f26, str]
          go_wp2_with fail
          refine (hl.out _).mono ?_
          rintro e w1 ⟨rfl, hs'⟩
          go_wp2
          refine stq_v rfl hs' ?_
          first | (simp only [mkAct, List.foldl_cons, List.foldl_nil, List.setIfInBounds_toArray, List.set_cons_succ, List.set_cons_zero, upd, reduceIte, Nat.reduceEqDiff, Nat.reduceAdd, f26, str]; done) | (simp [mkAct, upd, f26, str, *]; done)
        · -- operation 28
          obtain ⟨f26, f27, -⟩ := hp
          replace f26 : u 26 = (.bool true) := f26
          replace f27 : u 27 = (.bool true) := f27
          try simp only [f26, f27, str]
          go_wp2
          refine stq_v rfl Same.refl ?_
          first | (simp only [mkAct, List.foldl_cons, List.foldl_nil, List.setIfInBounds_toArray, List.set_cons_succ, List.set_cons_zero, upd, reduceIte, Nat.reduceEqDiff, Nat.reduceAdd, f26, f27, str]; done) | (simp [mkAct, upd, f26, f27, str, *]; done)
      · intro u wx hI hR
        obtain ⟨r0, r1, r2, r3, r4, r5, r6, r7, r8, r9, r10, r11, r12, r13, r14, r15, r16, r17, r18, r19, r20, r21, r22, r23, r24, r25, r26, r27, r28, -⟩ := hR
        replace r0 : u 0 = (.pointer (some p)) := r0
        replace r1 : u 1 = (.int .i64 (n : Int)) := r1
        replace r2 : u 2 = (.string y) := r2
        replace r3 : u 3 = (.agg (bv T1).toArray) := r3
        replace r4 : u 4 = (.bool b) := r4
        replace r5 : u 5 = (.agg (bv T1).toArray) := r5
        replace r6 : u 6 = (.agg (bv T2).toArray) := r6
        replace r7 : u 7 = (.bool b) := r7
        replace r8 : u 8 = (.bool true) := r8
        replace r9 : u 9 = (.bool true) := r9
        replace r10 : u 10 = (.int .i64 (m : Int)) := r10
        replace r11 : u 11 = (.int .i64 (n : Int)) := r11
        replace r12 : u 12 = (.bool false) := r12
        replace r13 : u 13 = (.bool false) := r13
        replace r14 : u 14 = (.string x) := r14
        replace r15 : u 15 = (.string y) := r15
        replace r16 : u 16 = (.bool true) := r16
        replace r17 : u 17 = (.bool true) := r17
        replace r18 : u 18 = (.bool true) := r18
        replace r19 : u 19 = undef := r19
        replace r20 : u 20 = undef := r20
        replace r21 : u 21 = undef := r21
        replace r22 : u 22 = undef := r22
        replace r23 : u 23 = undef := r23
        replace r24 : u 24 = (.bool true) := r24
        replace r25 : u 25 = (.bool true) := r25
        replace r26 : u 26 = (.bool true) := r26
        replace r27 : u 27 = (.bool true) := r27
        replace r28 : u 28 = (.bool true) := r28
        simp only [mkAct, List.foldl_cons, List.foldl_nil, List.setIfInBounds_toArray, List.set_cons_succ, List.set_cons_zero]
        try simp only [str, r0, r1, r2, r3, r4, r5, r6, r7, r8, r9, r10, r11, r12, r13, r14, r15, r16, r17, r18, r19, r20, r21, r22, r23, r24, r25, r26, r27, r28]
        go_wp2
        go_ret
        exact ⟨rfl, hw9.out.trans hI⟩
  · have hne : ((m : Int) != (n : Int)) = true := by simp; omega
    clear hmn
    refine wp_region_tails (by kernel_rfl) [(74, 0), (75, 1), (76, 2), (77, 3), (78, 4), (79, 5), (80, 6), (81, 7), (82, 8), (83, 9), (84, 10), (85, 11), (86, 12), (87, 13), (88, 14), (89, 15), (90, 16), (91, 17), (92, 18), (93, 19), (94, 20), (95, 21), (96, 22), (97, 23), (98, 24), (99, 25), (100, 26), (101, 27), (102, 28)] Same (Same _) [isV (.pointer (some p)), isV (.int .i64 (n : Int)), isV (.string y), isV (.agg (bv T1).toArray), isV (.bool b), isV (.agg (bv T1).toArray), isV (.agg (bv T2).toArray), isV (.bool b), isV (.bool true), isV (.bool true), isV (.int .i64 (m : Int)), isV (.int .i64 (n : Int)), isV (.bool true), isV (.bool true), isV undef, isV undef, isV undef, isV (.bool true), isV (.bool true), isV undef, isV undef, isV undef, isV undef, isV undef, isV (.bool true), isV (.bool true), isV (.bool true), isV (.bool true), isV (.bool true)] Same.refl.drew (fun _ _ h k => h.trans k) (by simp [isV_stable, isB_stable, isAny_stable]) (by decide) (l := [_, _, _, _, _, _, _, _, _, _, _, _, _, _, _, _, _, _, _, _, _, _, _, _, _, _, _, _, _]) rfl (by decide) (by kernel_rfl) ?_ ?_
    · refine ⟨?_, ?_, ?_, ?_, ?_, ?_, ?_, ?_, ?_, ?_, ?_, ?_, ?_, ?_, ?_, ?_, ?_, ?_, ?_, ?_, ?_, ?_, ?_, ?_, ?_, ?_, ?_, ?_, ?_, trivial⟩
      all_goals (intro u wx hI hp; simp only [mkAct, List.foldl_cons, List.foldl_nil, List.setIfInBounds_toArray, List.set_cons_succ, List.set_cons_zero])
      · -- operation 0
        go_wp2
        refine stq_v rfl Same.refl ?_
        first | (simp only [mkAct, List.foldl_cons, List.foldl_nil, List.setIfInBounds_toArray, List.set_cons_succ, List.set_cons_zero, upd, reduceIte, Nat.reduceEqDiff, Nat.reduceAdd, str]; done) | (simp [mkAct, upd, str, *]; done)
      · -- operation 1
        go_wp2
        refine stq_v rfl Same.refl ?_
        first | (simp only [mkAct, List.foldl_cons, List.foldl_nil, List.setIfInBounds_toArray, List.set_cons_succ, List.set_cons_zero, upd, reduceIte, Nat.reduceEqDiff, Nat.reduceAdd, str]; done) | (simp [mkAct, upd, str, *]; done)
      · -- operation 2
        go_wp2
        refine stq_v rfl Same.refl ?_
        first | (simp only [mkAct, List.foldl_cons, List.foldl_nil, List.setIfInBounds_toArray, List.set_cons_succ, List.set_cons_zero, upd, reduceIte, Nat.reduceEqDiff, Nat.reduceAdd, str]; done) | (simp [mkAct, upd, str, *]; done)
      · -- operation 3
        go_wp2_with (refine load_row rfl _ _ rfl w3.heap.size rfl _ _ _ _ ((hI.block _ hbAl).trans hbA.out) Try.underlying91 rfl hinf1.out ?_)
        refine stq_v rfl Same.refl ?_
        first | (simp only [mkAct, List.foldl_cons, List.foldl_nil, List.setIfInBounds_toArray, List.set_cons_succ, List.set_cons_zero, upd, reduceIte, Nat.reduceEqDiff, Nat.reduceAdd, str]; done) | (simp [mkAct, upd, str, *]; done)
      · -- operation 4
        obtain ⟨f0, f1, f2, f3, -⟩ := hp
        replace f0 : u 0 = (.pointer (some p)) := f0
        replace f1 : u 1 = (.int .i64 (n : Int)) := f1
        replace f2 : u 2 = (.string y) := f2
        replace f3 : u 3 = (.agg (bv T1).toArray) := f3
        try simp only [f0, f1, f2, f3, str]
        go_wp2_with fail
        refine (hck.out _ _ (hkaz.out.same hI)).mono ?_
        rintro e w1 ⟨rfl, hs'⟩
        go_wp2
        refine stq_v rfl hs' ?_
        first | (simp only [mkAct, List.foldl_cons, List.foldl_nil, List.setIfInBounds_toArray, List.set_cons_succ, List.set_cons_zero, upd, reduceIte, Nat.reduceEqDiff, Nat.reduceAdd, f0, f1, f2, f3, str]; done) | (simp [mkAct, upd, f0, f1, f2, f3, str, *]; done)
      · -- operation 5
        go_wp2_with (refine load_row rfl _ _ rfl w6.heap.size rfl _ _ _ _ ((hI.block _ hbBl).trans hbB.out) Try.underlying91 rfl hinf1.out ?_)
        refine stq_v rfl Same.refl ?_
        first | (simp only [mkAct, List.foldl_cons, List.foldl_nil, List.setIfInBounds_toArray, List.set_cons_succ, List.set_cons_zero, upd, reduceIte, Nat.reduceEqDiff, Nat.reduceAdd, str]; done) | (simp [mkAct, upd, str, *]; done)
      · -- operation 6
        go_wp2_with (refine load_row rfl _ _ rfl w9.heap.size rfl _ _ _ _ ((hI.block _ hbCl).trans hbC.out) Try.underlying91 rfl hinf2.out ?_)
        refine stq_v rfl Same.refl ?_
        first | (simp only [mkAct, List.foldl_cons, List.foldl_nil, List.setIfInBounds_toArray, List.set_cons_succ, List.set_cons_zero, upd, reduceIte, Nat.reduceEqDiff, Nat.reduceAdd, str]; done) | (simp [mkAct, upd, str, *]; done)
      · -- operation 7
        obtain ⟨f5, f6, -⟩ := hp
        replace f5 : u 5 = (.agg (bv T1).toArray) := f5
        replace f6 : u 6 = (.agg (bv T2).toArray) := f6
        try simp only [f5, f6, str]
        have he := he.out
        have hgd := tag_guard
        go_wp2
        refine stq_v rfl Same.refl ?_
        first | (simp only [mkAct, List.foldl_cons, List.foldl_nil, List.setIfInBounds_toArray, List.set_cons_succ, List.set_cons_zero, upd, reduceIte, Nat.reduceEqDiff, Nat.reduceAdd, f5, f6, str]; done) | (simp [mkAct, upd, f5, f6, str, *]; done)
      · -- operation 8
        obtain ⟨f4, f7, -⟩ := hp
        replace f4 : u 4 = (.bool b) := f4
        replace f7 : u 7 = (.bool b) := f7
        try simp only [f4, f7, str]
        go_wp2
        refine stq_v rfl Same.refl ?_
        first | (simp only [mkAct, List.foldl_cons, List.foldl_nil, List.setIfInBounds_toArray, List.set_cons_succ, List.set_cons_zero, upd, reduceIte, Nat.reduceEqDiff, Nat.reduceAdd, f4, f7, str]; done) | (simp [mkAct, upd, f4, f7, str, *]; done)
      · -- operation 9
        obtain ⟨f8, -, -⟩ := hp
        replace f8 : u 8 = (.bool true) := f8
        try simp only [f8, str]
        go_wp2
        refine stq_v rfl Same.refl ?_
        first | (simp only [mkAct, List.foldl_cons, List.foldl_nil, List.setIfInBounds_toArray, List.set_cons_succ, List.set_cons_zero, upd, reduceIte, Nat.reduceEqDiff, Nat.reduceAdd, f8, str]; done) | (simp [mkAct, upd, f8, str, *]; done)
      · -- operation 10
        obtain ⟨f9, -⟩ := hp
        replace f9 : u 9 = (.bool true) := f9
        try simp only [f9, str]
        go_wp2
        refine stq_v rfl Same.refl ?_
        first | (simp only [mkAct, List.foldl_cons, List.foldl_nil, List.setIfInBounds_toArray, List.set_cons_succ, List.set_cons_zero, upd, reduceIte, Nat.reduceEqDiff, Nat.reduceAdd, f9, str]; done) | (simp [mkAct, upd, f9, str, *]; done)
      · -- operation 11
        obtain ⟨f9, -⟩ := hp
        replace f9 : u 9 = (.bool true) := f9
        try simp only [f9, str]
        go_wp2
        refine stq_v rfl Same.refl ?_
        first | (simp only [mkAct, List.foldl_cons, List.foldl_nil, List.setIfInBounds_toArray, List.set_cons_succ, List.set_cons_zero, upd, reduceIte, Nat.reduceEqDiff, Nat.reduceAdd, f9, str]; done) | (simp [mkAct, upd, f9, str, *]; done)
      · -- operation 12
        obtain ⟨f10, f11, f9, -⟩ := hp
        replace f10 : u 10 = (.int .i64 (m : Int)) := f10
        replace f11 : u 11 = (.int .i64 (n : Int)) := f11
        replace f9 : u 9 = (.bool true) := f9
        try simp only [f10, f11, f9, str]
        go_wp2
        refine stq_v rfl Same.refl ?_
        first | (simp only [mkAct, List.foldl_cons, List.foldl_nil, List.setIfInBounds_toArray, List.set_cons_succ, List.set_cons_zero, upd, reduceIte, Nat.reduceEqDiff, Nat.reduceAdd, f10, f11, f9, str]; done) | (simp [mkAct, upd, f10, f11, f9, str, *]; done)
      · -- operation 13
        obtain ⟨f12, -, f9, -⟩ := hp
        replace f12 : u 12 = (.bool true) := f12
        replace f9 : u 9 = (.bool true) := f9
        try simp only [f12, f9, str]
        go_wp2
        refine stq_v rfl Same.refl ?_
        first | (simp only [mkAct, List.foldl_cons, List.foldl_nil, List.setIfInBounds_toArray, List.set_cons_succ, List.set_cons_zero, upd, reduceIte, Nat.reduceEqDiff, Nat.reduceAdd, f12, f9, str]; done) | (simp [mkAct, upd, f12, f9, str, *]; done)
      · -- operation 14
        obtain ⟨f13, -⟩ := hp
        replace f13 : u 13 = (.bool true) := f13
        try simp only [f13, str]
        go_wp2
        refine stq_v rfl Same.refl ?_
        first | (simp only [mkAct, List.foldl_cons, List.foldl_nil, List.setIfInBounds_toArray, List.set_cons_succ, List.set_cons_zero, upd, reduceIte, Nat.reduceEqDiff, Nat.reduceAdd, f13, str]; done) | (simp [mkAct, upd, f13, str, *]; done)
      · -- operation 15
        obtain ⟨f13, -⟩ := hp
        replace f13 : u 13 = (.bool true) := f13
        try simp only [f13, str]
        go_wp2
        refine stq_v rfl Same.refl ?_
        first | (simp only [mkAct, List.foldl_cons, List.foldl_nil, List.setIfInBounds_toArray, List.set_cons_succ, List.set_cons_zero, upd, reduceIte, Nat.reduceEqDiff, Nat.reduceAdd, f13, str]; done) | (simp [mkAct, upd, f13, str, *]; done)
      · -- operation 16
        obtain ⟨f14, f15, f13, -⟩ := hp
        replace f14 : u 14 = undef := f14
        replace f15 : u 15 = undef := f15
        replace f13 : u 13 = (.bool true) := f13
        try simp only [f14, f15, f13, str]
        go_wp2
        refine stq_v rfl Same.refl ?_
        first | (simp only [mkAct, List.foldl_cons, List.foldl_nil, List.setIfInBounds_toArray, List.set_cons_succ, List.set_cons_zero, upd, reduceIte, Nat.reduceEqDiff, Nat.reduceAdd, f14, f15, f13, str]; done) | (simp [mkAct, upd, f14, f15, f13, str, *]; done)
      · -- operation 17
        obtain ⟨f13, f16, f9, -⟩ := hp
        replace f13 : u 13 = (.bool true) := f13
        replace f16 : u 16 = undef := f16
        replace f9 : u 9 = (.bool true) := f9
        try simp only [f13, f16, f9, str]
        go_wp2
        refine stq_v rfl Same.refl ?_
        first | (simp only [mkAct, List.foldl_cons, List.foldl_nil, List.setIfInBounds_toArray, List.set_cons_succ, List.set_cons_zero, upd, reduceIte, Nat.reduceEqDiff, Nat.reduceAdd, f13, f16, f9, str]; done) | (simp [mkAct, upd, f13, f16, f9, str, *]; done)
      · -- operation 18
        obtain ⟨f17, -, f9, -⟩ := hp
        replace f17 : u 17 = (.bool true) := f17
        replace f9 : u 9 = (.bool true) := f9
        try simp only [f17, f9, str]
        go_wp2
        refine stq_v rfl Same.refl ?_
        first | (simp only [mkAct, List.foldl_cons, List.foldl_nil, List.setIfInBounds_toArray, List.set_cons_succ, List.set_cons_zero, upd, reduceIte, Nat.reduceEqDiff, Nat.reduceAdd, f17, f9, str]; done) | (simp [mkAct, upd, f17, f9, str, *]; done)
      · -- operation 19
        obtain ⟨f18, -⟩ := hp
        replace f18 : u 18 = (.bool true) := f18
        try simp only [f18, str]
        go_wp2
        refine stq_v rfl Same.refl ?_
        first | (simp only [mkAct, List.foldl_cons, List.foldl_nil, List.setIfInBounds_toArray, List.set_cons_succ, List.set_cons_zero, upd, reduceIte, Nat.reduceEqDiff, Nat.reduceAdd, f18, str]; done) | (simp [mkAct, upd, f18, str, *]; done)
      · -- operation 20
        obtain ⟨f18, -⟩ := hp
        replace f18 : u 18 = (.bool true) := f18
        try simp only [f18, str]
        go_wp2
        refine stq_v rfl Same.refl ?_
        first | (simp only [mkAct, List.foldl_cons, List.foldl_nil, List.setIfInBounds_toArray, List.set_cons_succ, List.set_cons_zero, upd, reduceIte, Nat.reduceEqDiff, Nat.reduceAdd, f18, str]; done) | (simp [mkAct, upd, f18, str, *]; done)
      · -- operation 21
        obtain ⟨f18, -⟩ := hp
        replace f18 : u 18 = (.bool true) := f18
        try simp only [f18, str]
        go_wp2
        refine stq_v rfl Same.refl ?_
        first | (simp only [mkAct, List.foldl_cons, List.foldl_nil, List.setIfInBounds_toArray, List.set_cons_succ, List.set_cons_zero, upd, reduceIte, Nat.reduceEqDiff, Nat.reduceAdd, f18, str]; done) | (simp [mkAct, upd, f18, str, *]; done)
      · -- operation 22
        obtain ⟨f18, -⟩ := hp
        replace f18 : u 18 = (.bool true) := f18
        try simp only [f18, str]
        go_wp2
        refine stq_v rfl Same.refl ?_
        first | (simp only [mkAct, List.foldl_cons, List.foldl_nil, List.setIfInBounds_toArray, List.set_cons_succ, List.set_cons_zero, upd, reduceIte, Nat.reduceEqDiff, Nat.reduceAdd, f18, str]; done) | (simp [mkAct, upd, f18, str, *]; done)
      · -- operation 23
        obtain ⟨f19, f20, f21, f22, -, f18, -⟩ := hp
        replace f19 : u 19 = undef := f19
        replace f20 : u 20 = undef := f20
        replace f21 : u 21 = undef := f21
        replace f22 : u 22 = undef := f22
        replace f18 : u 18 = (.bool true) := f18
        try simp only [f19, f20, f21, f22, f18, str]
        go_wp2
        refine stq_v rfl Same.refl ?_
        first | (simp only [mkAct, List.foldl_cons, List.foldl_nil, List.setIfInBounds_toArray, List.set_cons_succ, List.set_cons_zero, upd, reduceIte, Nat.reduceEqDiff, Nat.reduceAdd, f19, f20, f21, f22, f18, str]; done) | (simp [mkAct, upd, f19, f20, f21, f22, f18, str, *]; done)
      · -- operation 24
        obtain ⟨f18, f23, f9, -⟩ := hp
        replace f18 : u 18 = (.bool true) := f18
        replace f23 : u 23 = undef := f23
        replace f9 : u 9 = (.bool true) := f9
        try simp only [f18, f23, f9, str]
        go_wp2
        refine stq_v rfl Same.refl ?_
        first | (simp only [mkAct, List.foldl_cons, List.foldl_nil, List.setIfInBounds_toArray, List.set_cons_succ, List.set_cons_zero, upd, reduceIte, Nat.reduceEqDiff, Nat.reduceAdd, f18, f23, f9, str]; done) | (simp [mkAct, upd, f18, f23, f9, str, *]; done)
      · -- operation 25
        obtain ⟨f9, f24, -⟩ := hp
        replace f9 : u 9 = (.bool true) := f9
        replace f24 : u 24 = (.bool true) := f24
        try simp only [f9, f24, str]
        go_wp2
        refine stq_v rfl Same.refl ?_
        first | (simp only [mkAct, List.foldl_cons, List.foldl_nil, List.setIfInBounds_toArray, List.set_cons_succ, List.set_cons_zero, upd, reduceIte, Nat.reduceEqDiff, Nat.reduceAdd, f9, f24, str]; done) | (simp [mkAct, upd, f9, f24, str, *]; done)
      · -- operation 26
        obtain ⟨f25, -, -⟩ := hp
        replace f25 : u 25 = (.bool true) := f25
        try simp only [f25, str]
        go_wp2
        refine stq_v rfl Same.refl ?_
        first | (simp only [mkAct, List.foldl_cons, List.foldl_nil, List.setIfInBounds_toArray, List.set_cons_succ, List.set_cons_zero, upd, reduceIte, Nat.reduceEqDiff, Nat.reduceAdd, f25, str]; done) | (simp [mkAct, upd, f25, str, *]; done)
      · -- operation 27
        obtain ⟨-, f26, -⟩ := hp
        replace f26 : u 26 = (.bool true) := f26
        try simp only [f26, str]
        go_wp2_with fail
        refine (hl.out _).mono ?_
        rintro e w1 ⟨rfl, hs'⟩
        go_wp2
        refine stq_v rfl hs' ?_
        first | (simp only [mkAct, List.foldl_cons, List.foldl_nil, List.setIfInBounds_toArray, List.set_cons_succ, List.set_cons_zero, upd, reduceIte, Nat.reduceEqDiff, Nat.reduceAdd, f26, str]; done) | (simp [mkAct, upd, f26, str, *]; done)
      · -- operation 28
        obtain ⟨f26, f27, -⟩ := hp
        replace f26 : u 26 = (.bool true) := f26
        replace f27 : u 27 = (.bool true) := f27
        try simp only [f26, f27, str]
        go_wp2
        refine stq_v rfl Same.refl ?_
        first | (simp only [mkAct, List.foldl_cons, List.foldl_nil, List.setIfInBounds_toArray, List.set_cons_succ, List.set_cons_zero, upd, reduceIte, Nat.reduceEqDiff, Nat.reduceAdd, f26, f27, str]; done) | (simp [mkAct, upd, f26, f27, str, *]; done)
    · intro u wx hI hR
      obtain ⟨r0, r1, r2, r3, r4, r5, r6, r7, r8, r9, r10, r11, r12, r13, r14, r15, r16, r17, r18, r19, r20, r21, r22, r23, r24, r25, r26, r27, r28, -⟩ := hR
      replace r0 : u 0 = (.pointer (some p)) := r0
      replace r1 : u 1 = (.int .i64 (n : Int)) := r1
      replace r2 : u 2 = (.string y) := r2
      replace r3 : u 3 = (.agg (bv T1).toArray) := r3
      replace r4 : u 4 = (.bool b) := r4
      replace r5 : u 5 = (.agg (bv T1).toArray) := r5
      replace r6 : u 6 = (.agg (bv T2).toArray) := r6
      replace r7 : u 7 = (.bool b) := r7
      replace r8 : u 8 = (.bool true) := r8
      replace r9 : u 9 = (.bool true) := r9
      replace r10 : u 10 = (.int .i64 (m : Int)) := r10
      replace r11 : u 11 = (.int .i64 (n : Int)) := r11
      replace r12 : u 12 = (.bool true) := r12
      replace r13 : u 13 = (.bool true) := r13
      replace r14 : u 14 = undef := r14
      replace r15 : u 15 = undef := r15
      replace r16 : u 16 = undef := r16
      replace r17 : u 17 = (.bool true) := r17
      replace r18 : u 18 = (.bool true) := r18
      replace r19 : u 19 = undef := r19
      replace r20 : u 20 = undef := r20
      replace r21 : u 21 = undef := r21
      replace r22 : u 22 = undef := r22
      replace r23 : u 23 = undef := r23
      replace r24 : u 24 = (.bool true) := r24
      replace r25 : u 25 = (.bool true) := r25
      replace r26 : u 26 = (.bool true) := r26
      replace r27 : u 27 = (.bool true) := r27
      replace r28 : u 28 = (.bool true) := r28
      simp only [mkAct, List.foldl_cons, List.foldl_nil, List.setIfInBounds_toArray, List.set_cons_succ, List.set_cons_zero]
      try simp only [str, r0, r1, r2, r3, r4, r5, r6, r7, r8, r9, r10, r11, r12, r13, r14, r15, r16, r17, r18, r19, r20, r21, r22, r23, r24, r25, r26, r27, r28]
      go_wp2
      go_ret
      exact ⟨rfl, hw9.out.trans hI⟩
theorem walk_SealApart (w : World) (seed : ByteArray) (hs : seed.size ≤ maxLen) (a : Int) (ha : (Lit.int .i64 a).wf = true) (b : Int) (hb : (Lit.int .i64 b).wf = true) (x : ByteArray) (hx : x.size ≤ maxLen) (y : ByteArray) (hy : y.size ≤ maxLen) :
    Calls Try.prog 14 #[.string seed, .int .i64 a, .int .i64 b, .string x, .string y] w fun e w' => e = .returned (.bool true) ∧ Same w w' := by
  by_cases h : 64 < seed.size ∨ seed.size ≤ 64 ∧ 2000 < x.size ∨ seed.size ≤ 64 ∧ x.size ≤ 2000 ∧ 2000 < y.size
  · exact apart_big w seed a b x y h
  · exact apart_main w seed a b x y (by omega) (by omega) (by omega)
end Go.Proofs.Ytejdiganmghopaa
