/-
  The walk of the law BatchBack: a batch that may be read again is read as it was put, whatever stands behind it.
-/
-- @law rep bat, bytes
import Derived.Test.YthgpmgodpedjdaaBatH
import Derived.Deep.DeepCutAuto
namespace Go.Proofs.Ythgpmgodpedjdaa
open Go Go.RowKit
set_option linter.unusedSimpArgs false
set_option linter.unusedVariables false

set_option maxRecDepth 100000 in
set_option maxHeartbeats 3200000 in
theorem walk_BatchBack (w : World) (b : BatV) (hb : b.at w) (ao : Option Addr) (n c : Nat) (xs : List UInt8) (hsl : Sl w 1 ao n c (bv xs)) :
    Calls Try.prog 11 #[.agg b.cells.toArray, .slice ao n c] w fun e w' => e = .returned (.bool true) ∧ Same w w' := by
  have hl := Lib.hid lives7
  have hinf := Lib.hid (bat_info b)
  have hpl := Lib.hid (fun w h => rplain_any b w h)
  have hlen : xs.length = n := by have := hsl.len; rw [bv_length] at this; omega
  have hmostn : n ≤ 9223372036854775807 := by have := hsl.cap; have := hsl.most; unfold maxLen at this; omega
  replace hb := Lib.hid hb
  replace hsl := Lib.hid hsl
  replace hlen := Lib.hid hlen
  go_enter Try.func11, Try.ntmps11
  go_upto_region 1 with (refine box_row rfl _ _ rfl b.cells.toArray rfl hinf.out ?_; intro w1 hbb hs0; replace hbb := Lib.hid hbb)
  have s0 := Lib.hid hs0
  have sb := Lib.hid (Same.refl (w := w1))
  have zb1 := blk_lt hbb.out
  clear hs0
  go_wp2_with (first | (refine load_row rfl _ _ rfl w.heap.size rfl _ _ _ _ (sb.out.at hbb.out) Try.underlying24 rfl hinf.out ?_) | (refine build_sl (W' := w1.alloc (.cells (bvs [b]).toArray 24)) (.slice (some ⟨w1.heap.size, 0, none⟩) 1 1) rfl rfl (by kernel_rfl) ?_))
  have hlt := light7_any (some ⟨w1.heap.size, 0, none⟩) 1 1 [b] (w1.alloc (.cells (bvs [b]).toArray 24)) (bvs_box [b] 1 rfl (by unfold maxLen; omega)) rfl (by
    intro x hx
    have hw : Same w (w1.alloc (.cells (bvs [b]).toArray 24)) := s0.out.trans (Same.refl.alloc _)
    simp only [List.mem_cons, List.not_mem_nil, or_false] at hx
    subst hx
    exact BatV.same hb.out hw)
  refine hlt.mono ?_
  rintro e w2 ⟨L, rfl, hL, hs'⟩
  have hs : Same w1 w2 := (Same.refl.alloc _).trans hs'
  clear hs' hlt
  replace s0 := Lib.hid (s0.out.trans hs)
  replace sb := Lib.hid (sb.out.trans hs)
  clear hs
  replace hL := Lib.hid hL
  cases L
  · clear hL
    go_wp2_with fail
    refine (hl.out _).mono ?_
    rintro e w3 ⟨rfl, hs⟩
    replace s0 := Lib.hid (s0.out.trans hs)
    replace sb := Lib.hid (sb.out.trans hs)
    clear hs
    go_wp2
    go_ret
    exact ⟨rfl, s0.out⟩
  · have smb := hL.out (by simp) b (by simp)
    clear hL
    replace smb := Lib.hid smb
    by_cases hn : 2000 < n
    · have hdn : decide (2000 < (n : Int)) = true := decide_eq_true (by omega)
      go_wp2_with fail
      refine (hl.out _).mono ?_
      rintro e w3 ⟨rfl, hs⟩
      replace s0 := Lib.hid (s0.out.trans hs)
      replace sb := Lib.hid (sb.out.trans hs)
      clear hs
      go_wp2
      go_ret
      exact ⟨rfl, s0.out⟩
    · have hdn : decide (2000 < (n : Int)) = false := decide_eq_false (by omega)
      have hb2 := Lib.hid (BatV.same hb.out s0.out)
      go_wp2_with (first | (refine load_row rfl _ _ rfl w.heap.size rfl _ _ _ _ (sb.out.at hbb.out) Try.underlying24 rfl hinf.out ?_))
      refine (hpl.out _ hb2.out).mono ?_
      rintro e w3 ⟨P, rfl, hP, hs⟩
      replace s0 := Lib.hid (s0.out.trans hs)
      replace sb := Lib.hid (sb.out.trans hs)
      clear hs
      clear hb2
      replace hP := Lib.hid hP
      cases P
      · clear hP
        go_wp2_with fail
        refine (hl.out _).mono ?_
        rintro e w4 ⟨rfl, hs⟩
        replace s0 := Lib.hid (s0.out.trans hs)
        replace sb := Lib.hid (sb.out.trans hs)
        clear hs
        go_wp2
        go_ret
        exact ⟨rfl, s0.out⟩
      · have plb := hP.out (by simp)
        have hpt := fun w h => bputB_any none 0 0 [] b w (Sl.none w 1) (by omega) h smb.out
        simp only [List.nil_append] at hpt
        have hPl := batPut_le hb.out smb.out
        have hgp := batGet_put hb.out plb xs
        have hget := fun rb db w h => bget_any rb db (batPut b.noop b.reqs ++ xs, 0) w h (by simp only [List.length_append]; rw [hlen.out]; omega)
        rw [hgp] at hget
        unfold RetBat at hget
        unfold RetB at hpt
        obtain ⟨A, hA⟩ : ∃ A, A = batPut b.noop b.reqs := ⟨_, rfl⟩
        rw [← hA] at hpt hPl hget
        have hrd := fun ao cap w h => read_any ao (A.length + n) cap (A ++ xs) w h (by omega)
        unfold RetRead at hrd
        have hlf : Num.rLeft (xs, 0) = n := by simp [Num.rLeft, hlen.out]
        have hnn : ((n : Int) == (n : Int)) = true := by simp
        have hsame := fun ao c w h1 h2 => rbsame_any ⟨b.noop, ao, c, b.reqs⟩ b w h1 h2
        have hst : ∀ ao c, batSame ⟨b.noop, ao, c, b.reqs⟩ b = true := fun ao c => (batSame_iff _ _).2 ⟨rfl, rfl⟩
        simp only [hst] at hsame
        have hmem := hb.out.2
        have hb3 := Lib.hid (BatV.same hb.out s0.out)
        clear hP plb hgp hA hst hpl smb
        replace hpt := Lib.hid hpt
        replace hget := Lib.hid hget
        replace hrd := Lib.hid hrd
        replace hlf := Lib.hid hlf
        replace hsame := Lib.hid hsame
        replace hmem := Lib.hid hmem
        have z_s0 := s0.out.size
        have z_sb := sb.out.size
        have s3 := Lib.hid (Same.refl (w := w3))
        go_wp2_with (first | (refine load_row rfl _ _ rfl w.heap.size rfl _ _ _ _ (sb.out.at hbb.out) Try.underlying24 rfl hinf.out ?_))
        refine (hpt.out _ hb3.out).mono ?_
        rintro e w4 ⟨v, rfl, ho, hs⟩
        replace s0 := Lib.hid (s0.out.trans hs)
        replace sb := Lib.hid (sb.out.trans hs)
        replace s3 := Lib.hid (s3.out.trans hs)
        clear hs
        have hsl4 := Lib.hid (hsl.out.same s0.out)
        have z34 := s3.out.size
        clear s3
        replace ho := Lib.hid ho
        go_wp2_with (at_builtin; refine append_sl rfl _ _ rfl byT ho.out rfl rfl hsl4.out bv_cell z34 (by omega) (by omega) ?_)
        intro v5 w5 ho5 hk5 hz5
        clear hz5
        rw [← bv_append] at ho5
        have hkm : Keep (fun k => w3.heap.size ≤ k) w4 w5 := hk5.mono (fun x _ hx => ho.out.base x hx)
        replace s0 := Lib.hid (s0.out.keep hkm (fun x hx hv => by omega))
        replace sb := Lib.hid (sb.out.keep hkm (fun x hx hv => by omega))
        clear hkm hk5 ho
        obtain ⟨ao5, c5, rfl, hsl5⟩ := ho5.sl
        clear ho5
        replace hsl5 := Lib.hid hsl5
        have z05 := sb.out.size
        go_wp2_with fail
        refine (hrd.out _ _ _ hsl5.out).mono ?_
        rintro e w6 ⟨rb, db, rfl, hrr, hrb, hdb, hs⟩
        replace s0 := Lib.hid (s0.out.trans hs)
        replace sb := Lib.hid (sb.out.trans hs)
        clear hs
        replace hrr := Lib.hid hrr
        have hbrb : w.heap.size ≠ rb := by omega
        have z00 := s0.out.size
        have hb6 := Lib.hid (BatV.same hb.out s0.out)
        have hblt : ∀ a, b.ao = some a → b.reqs ≠ [] → a.block < w.heap.size := by
          intro a ha hne
          refine hb.out.1.lt ?_ ha
          intro h2
          have := hb.out.1.len
          rw [h2] at this
          have h3 := List.length_pos_iff.2 hne
          simp at this
          omega
        replace hblt := Lib.hid hblt
        go_upto_region 4 with fail
        refine wp_region_mut (by kernel_rfl) [(26, 0), (27, 1), (28, 2), (29, 3), (30, 4), (31, 5), (32, 6), (33, 7), (34, 8), (35, 9), (36, 10), (37, 11), (38, 12), (39, 13), (40, 14), (41, 15), (42, 16), (43, 17), (44, 18)] [(1, (Keep (fun x => x = rb)))] [(1, [1]), (1000, [1])] [0, 1, 2, 3, 4, 5, 6, 7, 8, 9, 10, 11, 12, 13, 14, 15, 16, 17, 18] [[], [0, 1000], [], [1, 2], [3], [4], [5, 4, 1], [6, 4], [4, 7], [8], [9], [10, 9, 1], [9], [12, 9], [11, 13, 9], [9, 14], [15], [16], [16, 17]] Same (Keep (fun x => x = rb) w6) [(fun w => Rdr w rb db (A ++ xs, 0))] [isV (.pointer (some ⟨rb, 0, none⟩)), isGotB rb db b.noop b.reqs (xs, 0), isV (.agg b.cells.toArray), isV (.bool true), isV (.bool true), isV (.pointer (some ⟨rb, 0, none⟩)), isV (.int .i64 0), isV (.bool true), isV (.bool true), isV (.bool true), isV (.pointer (some ⟨rb, 0, none⟩)), isV (.int .i64 (n : Int)), isV (.slice ao n c), isV (.int .i64 (n : Int)), isV (.bool true), isV (.bool true), isV (.bool true), isV (.bool true), isV (.bool true)] (Keep.drew) (by intro g hg; simp only [List.mem_cons, List.not_mem_nil, or_false] at hg; obtain rfl := hg; exact (hrr.out.same Same.refl.drew)) (fun _ _ h k => h.trans (Keep.of_same (p := fun _ => False) k) (fun _ _ h => h.elim)) (by intro g hg; simp only [List.mem_cons, List.not_mem_nil, or_false] at hg; obtain rfl := hg; exact (fun _ _ h k => h.trans k (fun x _ hx => hx))) (by simp [isV_stable, isB_stable, isAny_stable, isGotB_stable]) (by intro g hg; simp only [List.mem_cons, List.not_mem_nil, or_false] at hg; obtain rfl := hg; exact (fun _ _ k h => h.same k)) (by simp [killsOf, List.zipIdx_cons, isV_stable, isAny_stable]) (by simp [killsOf, List.zipIdx_cons]) (by decide) (l := [_, _, _, _, _, _, _, _, _, _, _, _, _, _, _, _, _, _, _]) rfl (by decide) (by kernel_rfl) (by kernel_rfl) (by kernel_rfl) (by decide) ?_ ?_
        · refine ⟨?_, ?_, ?_, ?_, ?_, ?_, ?_, ?_, ?_, ?_, ?_, ?_, ?_, ?_, ?_, ?_, ?_, ?_, ?_, trivial⟩
          all_goals (intro u wx hI hp; simp only [mkAct, List.foldl_cons, List.foldl_nil, List.setIfInBounds_toArray, List.set_cons_succ, List.set_cons_zero])
          · -- operation 0
            go_wp2
            refine stg_v (x := (.pointer (some ⟨rb, 0, none⟩))) rfl Same.refl ?_
            first | (simp only [mkAct, List.foldl_cons, List.foldl_nil, List.setIfInBounds_toArray, List.set_cons_succ, List.set_cons_zero, upd, reduceIte, Nat.reduceEqDiff, Nat.reduceAdd, str]; done) | (simp [mkAct, upd, str, *]; done)
          · -- operation 1
            obtain ⟨f0, fG0, -⟩ := hp
            replace f0 : u 0 = (.pointer (some ⟨rb, 0, none⟩)) := f0
            try simp only [f0, str]
            have fG := Lib.hid fG0
            go_wp2_with fail
            refine (hget.out _ _ _ fG.out).mono ?_
            rintro e w8 ⟨gao, gc, rfl, hgs, hr8, hk8⟩
            go_wp2
            refine stg_v (x := (.agg #[.bool b.noop, .slice gao b.reqs.length gc])) ⟨gao, gc, rfl, hgs, hr8⟩ hk8 ?_
            first | (simp only [mkAct, List.foldl_cons, List.foldl_nil, List.setIfInBounds_toArray, List.set_cons_succ, List.set_cons_zero, upd, reduceIte, Nat.reduceEqDiff, Nat.reduceAdd, f0, str]; done) | (simp [mkAct, upd, f0, str, *]; done)
          · -- operation 2
            go_wp2_with (refine load_row rfl _ _ rfl w.heap.size rfl _ _ _ _ ((hI.block _ (blk_lt (sb.out.at hbb.out)) hbrb).trans (sb.out.at hbb.out)) Try.underlying24 rfl hinf.out ?_)
            refine stg_v (x := (.agg b.cells.toArray)) rfl Same.refl ?_
            first | (simp only [mkAct, List.foldl_cons, List.foldl_nil, List.setIfInBounds_toArray, List.set_cons_succ, List.set_cons_zero, upd, reduceIte, Nat.reduceEqDiff, Nat.reduceAdd, str]; done) | (simp [mkAct, upd, str, *]; done)
          · -- operation 3
            obtain ⟨f1, f2, -⟩ := hp
            replace f2 : u 2 = (.agg b.cells.toArray) := f2
            try simp only [f2, str]
            obtain ⟨gao, gc, f1, hgs, -⟩ := f1
            try simp only [f1]
            have hbw : b.at wx := ⟨hb6.out.1.keep hI (fun a ha hne hx => by have := hblt.out a ha (fun h => hne (by simp [rv, h])); omega), hmem.out⟩
            have hgw : BatV.at wx ⟨b.noop, gao, gc, b.reqs⟩ := ⟨hgs, hmem.out⟩
            replace hbw := Lib.hid hbw
            replace hgw := Lib.hid hgw
            clear hgs
            go_wp2_with fail
            refine (hsame.out _ _ _ hgw.out hbw.out).mono ?_
            rintro e w8 ⟨rfl, hs8⟩
            go_wp2
            refine stg_v (x := .bool true) rfl hs8 ?_
            simp [mkAct, upd, f1, f2]
          · -- operation 4
            obtain ⟨f3, -⟩ := hp
            replace f3 : u 3 = (.bool true) := f3
            try simp only [f3, str]
            go_wp2
            refine stg_v (x := (.bool true)) rfl Same.refl ?_
            first | (simp only [mkAct, List.foldl_cons, List.foldl_nil, List.setIfInBounds_toArray, List.set_cons_succ, List.set_cons_zero, upd, reduceIte, Nat.reduceEqDiff, Nat.reduceAdd, f3, str]; done) | (simp [mkAct, upd, f3, str, *]; done)
          · -- operation 5
            obtain ⟨f4, -⟩ := hp
            replace f4 : u 4 = (.bool true) := f4
            try simp only [f4, str]
            go_wp2
            refine stg_v (x := (.pointer (some ⟨rb, 0, none⟩))) rfl Same.refl ?_
            first | (simp only [mkAct, List.foldl_cons, List.foldl_nil, List.setIfInBounds_toArray, List.set_cons_succ, List.set_cons_zero, upd, reduceIte, Nat.reduceEqDiff, Nat.reduceAdd, f4, str]; done) | (simp [mkAct, upd, f4, str, *]; done)
          · -- operation 6
            obtain ⟨f5, f4, f1, -⟩ := hp
            replace f5 : u 5 = (.pointer (some ⟨rb, 0, none⟩)) := f5
            replace f4 : u 4 = (.bool true) := f4
            try simp only [f5, f4, str]
            obtain ⟨gao, gc, f1, -, hr1⟩ := f1
            have hr2 := Lib.hid hr1
            clear hr1
            go_wp2_with fail
            refine (err_any _ _ _ _ hr2.out).mono ?_
            rintro e w8 ⟨rfl, rfl⟩
            go_wp2
            refine stg_v (x := (.int .i64 0)) rfl Same.refl ?_
            first | (simp only [mkAct, List.foldl_cons, List.foldl_nil, List.setIfInBounds_toArray, List.set_cons_succ, List.set_cons_zero, upd, reduceIte, Nat.reduceEqDiff, Nat.reduceAdd, f5, f4, str]; done) | (simp [mkAct, upd, f5, f4, str, *]; done)
          · -- operation 7
            obtain ⟨f6, f4, -⟩ := hp
            replace f6 : u 6 = (.int .i64 0) := f6
            replace f4 : u 4 = (.bool true) := f4
            try simp only [f6, f4, str]
            go_wp2
            refine stg_v (x := (.bool true)) rfl Same.refl ?_
            first | (simp only [mkAct, List.foldl_cons, List.foldl_nil, List.setIfInBounds_toArray, List.set_cons_succ, List.set_cons_zero, upd, reduceIte, Nat.reduceEqDiff, Nat.reduceAdd, f6, f4, str]; done) | (simp [mkAct, upd, f6, f4, str, *]; done)
          · -- operation 8
            obtain ⟨f4, f7, -⟩ := hp
            replace f4 : u 4 = (.bool true) := f4
            replace f7 : u 7 = (.bool true) := f7
            try simp only [f4, f7, str]
            go_wp2
            refine stg_v (x := (.bool true)) rfl Same.refl ?_
            first | (simp only [mkAct, List.foldl_cons, List.foldl_nil, List.setIfInBounds_toArray, List.set_cons_succ, List.set_cons_zero, upd, reduceIte, Nat.reduceEqDiff, Nat.reduceAdd, f4, f7, str]; done) | (simp [mkAct, upd, f4, f7, str, *]; done)
          · -- operation 9
            obtain ⟨f8, -⟩ := hp
            replace f8 : u 8 = (.bool true) := f8
            try simp only [f8, str]
            go_wp2
            refine stg_v (x := (.bool true)) rfl Same.refl ?_
            first | (simp only [mkAct, List.foldl_cons, List.foldl_nil, List.setIfInBounds_toArray, List.set_cons_succ, List.set_cons_zero, upd, reduceIte, Nat.reduceEqDiff, Nat.reduceAdd, f8, str]; done) | (simp [mkAct, upd, f8, str, *]; done)
          · -- operation 10
            obtain ⟨f9, -⟩ := hp
            replace f9 : u 9 = (.bool true) := f9
            try simp only [f9, str]
            go_wp2
            refine stg_v (x := (.pointer (some ⟨rb, 0, none⟩))) rfl Same.refl ?_
            first | (simp only [mkAct, List.foldl_cons, List.foldl_nil, List.setIfInBounds_toArray, List.set_cons_succ, List.set_cons_zero, upd, reduceIte, Nat.reduceEqDiff, Nat.reduceAdd, f9, str]; done) | (simp [mkAct, upd, f9, str, *]; done)
          · -- operation 11
            obtain ⟨f10, f9, f1, -⟩ := hp
            replace f10 : u 10 = (.pointer (some ⟨rb, 0, none⟩)) := f10
            replace f9 : u 9 = (.bool true) := f9
            try simp only [f10, f9, str]
            obtain ⟨gao, gc, f1, -, hr1⟩ := f1
            have hr2 := Lib.hid hr1
            clear hr1
            go_wp2_with fail
            refine (left2_any _ _ _ _ hr2.out).mono ?_
            rintro e w8 ⟨rfl, rfl⟩
            rw [hlf.out]
            go_wp2
            refine stg_v (x := (.int .i64 (n : Int))) rfl Same.refl ?_
            first | (simp only [mkAct, List.foldl_cons, List.foldl_nil, List.setIfInBounds_toArray, List.set_cons_succ, List.set_cons_zero, upd, reduceIte, Nat.reduceEqDiff, Nat.reduceAdd, f10, f9, str]; done) | (simp [mkAct, upd, f10, f9, str, *]; done)
          · -- operation 12
            obtain ⟨f9, -⟩ := hp
            replace f9 : u 9 = (.bool true) := f9
            try simp only [f9, str]
            go_wp2
            refine stg_v (x := (.slice ao n c)) rfl Same.refl ?_
            first | (simp only [mkAct, List.foldl_cons, List.foldl_nil, List.setIfInBounds_toArray, List.set_cons_succ, List.set_cons_zero, upd, reduceIte, Nat.reduceEqDiff, Nat.reduceAdd, f9, str]; done) | (simp [mkAct, upd, f9, str, *]; done)
          · -- operation 13
            obtain ⟨f12, f9, -⟩ := hp
            replace f12 : u 12 = (.slice ao n c) := f12
            replace f9 : u 9 = (.bool true) := f9
            try simp only [f12, f9, str]
            go_wp2
            refine stg_v (x := (.int .i64 (n : Int))) rfl Same.refl ?_
            first | (simp only [mkAct, List.foldl_cons, List.foldl_nil, List.setIfInBounds_toArray, List.set_cons_succ, List.set_cons_zero, upd, reduceIte, Nat.reduceEqDiff, Nat.reduceAdd, f12, f9, str]; done) | (simp [mkAct, upd, f12, f9, str, *]; done)
          · -- operation 14
            obtain ⟨f11, f13, f9, -⟩ := hp
            replace f11 : u 11 = (.int .i64 (n : Int)) := f11
            replace f13 : u 13 = (.int .i64 (n : Int)) := f13
            replace f9 : u 9 = (.bool true) := f9
            try simp only [f11, f13, f9, str]
            go_wp2
            refine stg_v (x := (.bool true)) rfl Same.refl ?_
            first | (simp only [mkAct, List.foldl_cons, List.foldl_nil, List.setIfInBounds_toArray, List.set_cons_succ, List.set_cons_zero, upd, reduceIte, Nat.reduceEqDiff, Nat.reduceAdd, f11, f13, f9, str]; done) | (simp [mkAct, upd, f11, f13, f9, str, *]; done)
          · -- operation 15
            obtain ⟨f9, f14, -⟩ := hp
            replace f9 : u 9 = (.bool true) := f9
            replace f14 : u 14 = (.bool true) := f14
            try simp only [f9, f14, str]
            go_wp2
            refine stg_v (x := (.bool true)) rfl Same.refl ?_
            first | (simp only [mkAct, List.foldl_cons, List.foldl_nil, List.setIfInBounds_toArray, List.set_cons_succ, List.set_cons_zero, upd, reduceIte, Nat.reduceEqDiff, Nat.reduceAdd, f9, f14, str]; done) | (simp [mkAct, upd, f9, f14, str, *]; done)
          · -- operation 16
            obtain ⟨f15, -⟩ := hp
            replace f15 : u 15 = (.bool true) := f15
            try simp only [f15, str]
            go_wp2
            refine stg_v (x := (.bool true)) rfl Same.refl ?_
            first | (simp only [mkAct, List.foldl_cons, List.foldl_nil, List.setIfInBounds_toArray, List.set_cons_succ, List.set_cons_zero, upd, reduceIte, Nat.reduceEqDiff, Nat.reduceAdd, f15, str]; done) | (simp [mkAct, upd, f15, str, *]; done)
          · -- operation 17
            obtain ⟨f16, -⟩ := hp
            replace f16 : u 16 = (.bool true) := f16
            try simp only [f16, str]
            go_wp2_with fail
            refine (hl.out _).mono ?_
            rintro e w1 ⟨rfl, hs'⟩
            go_wp2
            refine stg_v (x := (.bool true)) rfl hs' ?_
            first | (simp only [mkAct, List.foldl_cons, List.foldl_nil, List.setIfInBounds_toArray, List.set_cons_succ, List.set_cons_zero, upd, reduceIte, Nat.reduceEqDiff, Nat.reduceAdd, f16, str]; done) | (simp [mkAct, upd, f16, str, *]; done)
          · -- operation 18
            obtain ⟨f16, f17, -⟩ := hp
            replace f16 : u 16 = (.bool true) := f16
            replace f17 : u 17 = (.bool true) := f17
            try simp only [f16, f17, str]
            go_wp2
            refine stg_v (x := (.bool true)) rfl Same.refl ?_
            first | (simp only [mkAct, List.foldl_cons, List.foldl_nil, List.setIfInBounds_toArray, List.set_cons_succ, List.set_cons_zero, upd, reduceIte, Nat.reduceEqDiff, Nat.reduceAdd, f16, f17, str]; done) | (simp [mkAct, upd, f16, f17, str, *]; done)
        · intro u wx hI hR
          obtain ⟨r0, r1, r2, r3, r4, r5, r6, r7, r8, r9, r10, r11, r12, r13, r14, r15, r16, r17, r18, -⟩ := hR
          replace r0 : u 0 = (.pointer (some ⟨rb, 0, none⟩)) := r0
          replace r2 : u 2 = (.agg b.cells.toArray) := r2
          replace r3 : u 3 = (.bool true) := r3
          replace r4 : u 4 = (.bool true) := r4
          replace r5 : u 5 = (.pointer (some ⟨rb, 0, none⟩)) := r5
          replace r6 : u 6 = (.int .i64 0) := r6
          replace r7 : u 7 = (.bool true) := r7
          replace r8 : u 8 = (.bool true) := r8
          replace r9 : u 9 = (.bool true) := r9
          replace r10 : u 10 = (.pointer (some ⟨rb, 0, none⟩)) := r10
          replace r11 : u 11 = (.int .i64 (n : Int)) := r11
          replace r12 : u 12 = (.slice ao n c) := r12
          replace r13 : u 13 = (.int .i64 (n : Int)) := r13
          replace r14 : u 14 = (.bool true) := r14
          replace r15 : u 15 = (.bool true) := r15
          replace r16 : u 16 = (.bool true) := r16
          replace r17 : u 17 = (.bool true) := r17
          replace r18 : u 18 = (.bool true) := r18
          simp only [mkAct, List.foldl_cons, List.foldl_nil, List.setIfInBounds_toArray, List.set_cons_succ, List.set_cons_zero]
          try simp only [str, r0, r2, r3, r4, r5, r6, r7, r8, r9, r10, r11, r12, r13, r14, r15, r16, r17, r18]
          go_wp2
          go_ret
          exact ⟨rfl, s0.out.keep hI (fun x hx hv => by omega)⟩
end Go.Proofs.Ythgpmgodpedjdaa
