/-
  The walk of the law BatchApart: unlike batches that may be read again have unlike bytes, and unlike digests, as long as those of unlike bytes are.
-/
-- @law rep bat, rep bat
import Derived.Test.YthgpmgodpedjdaaBat5
import Derived.Test.YthgpmgodpedjdaaBat3
import Derived.Test.YthgpmgodpedjdaaBatO
import Derived.Deep.DeepCutAuto
namespace Go.Proofs.Ythgpmgodpedjdaa
open Go Go.RowKit
set_option linter.unusedSimpArgs false
set_option linter.unusedVariables false

section
variable {P : Program} {ops : Array Oper} {rest : List Oper} {o : Oper} {a : Act} {Q : Exit → Act → World → Prop}
/-- A slice built of parts, told by a name. -/
theorem build_sl {W W' : World} {ty : TypeId} {n : Nat} {parts : Array (Nat × Operand)} (v : Value) (hg : Region.wanted o (yielded ops a.tmps) = true) (_ho : o.op = .buildSlice ty n parts) (hr : (execOp a.eval o).run P W = .ok (.value v) W') (h : wpList P ops Q rest (a.put o.dst v) W') : wpList P ops Q (o :: rest) a W :=
  wpL_value hg hr h
end
theorem batSame_iff (a b : BatV) : batSame a b = true ↔ a.noop = b.noop ∧ a.reqs = b.reqs := by simp [batSame]
set_option maxRecDepth 100000 in
set_option maxHeartbeats 3200000 in
theorem walk_BatchApart (w : World) (a : BatV) (ha : a.at w) (b : BatV) (hb : b.at w) :
    Calls Try.prog 3 #[.agg a.cells.toArray, .agg b.cells.toArray] w fun e w' => e = .returned (.bool true) ∧ Same w w' := by
  have hl := Lib.hid lives7
  have hinfA := Lib.hid (bat_info a)
  have hinfB := Lib.hid (bat_info b)
  have hpa := Lib.hid (fun w h => rplain_any a w h)
  have hpb := Lib.hid (fun w h => rplain_any b w h)
  have hsm := fun w h1 h2 => rbsame_any a b w h1 h2
  replace ha := Lib.hid ha
  replace hb := Lib.hid hb
  obtain ⟨S, hS⟩ : ∃ S, S = batSame a b := ⟨_, rfl⟩
  rw [← hS] at hsm
  replace hS := Lib.hid hS
  replace hsm := Lib.hid hsm
  go_enter Try.func3, Try.ntmps3
  go_upto_region 1 with (first | (refine box_row rfl _ _ rfl a.cells.toArray rfl hinfA.out ?_; intro w0 hba hs0; replace hba := Lib.hid hba; replace hs0 := Lib.hid hs0) | (refine box_row rfl _ _ rfl b.cells.toArray rfl hinfB.out ?_; intro w1 hbb hs1; replace hbb := Lib.hid hbb; replace hs1 := Lib.hid hs1))
  have s0 := Lib.hid (hs0.out.trans hs1.out)
  have sa := hs1
  have sb := Lib.hid (Same.refl (w := w1))
  clear hs0 hs1
  go_wp2_with (first | (refine load_row rfl _ _ rfl w.heap.size rfl _ _ _ _ (sa.out.at hba.out) Try.underlying24 rfl hinfA.out ?_) | (refine load_row rfl _ _ rfl w0.heap.size rfl _ _ _ _ (sb.out.at hbb.out) Try.underlying24 rfl hinfB.out ?_) | (refine build_sl (W' := w1.alloc (.cells (bvs [a, b]).toArray 24)) (.slice (some ⟨w1.heap.size, 0, none⟩) 2 2) rfl rfl (by kernel_rfl) ?_))
  have hlt := light7_any (some ⟨w1.heap.size, 0, none⟩) 2 2 [a, b] (w1.alloc (.cells (bvs [a, b]).toArray 24)) (bvs_box [a, b] 2 rfl (by unfold maxLen; omega)) rfl (by
    intro x hx
    have hw : Same w (w1.alloc (.cells (bvs [a, b]).toArray 24)) := s0.out.trans (Same.refl.alloc _)
    simp only [List.mem_cons, List.not_mem_nil, or_false] at hx
    rcases hx with rfl | rfl
    · exact BatV.same ha.out hw
    · exact BatV.same hb.out hw)
  refine hlt.mono ?_
  rintro e w2 ⟨L, rfl, hL, hs'⟩
  have hs : Same w1 w2 := (Same.refl.alloc _).trans hs'
  clear hs' hlt
  replace s0 := Lib.hid (s0.out.trans hs)
  replace sa := Lib.hid (sa.out.trans hs)
  replace sb := Lib.hid (sb.out.trans hs)
  clear hs
  replace hL := Lib.hid hL
  cases L
  · clear hL
    go_wp2_with fail
    refine (hl.out _).mono ?_
    rintro e w3 ⟨rfl, hs⟩
    replace s0 := Lib.hid (s0.out.trans hs)
    replace sa := Lib.hid (sa.out.trans hs)
    replace sb := Lib.hid (sb.out.trans hs)
    clear hs
    go_wp2
    go_ret
    exact ⟨rfl, s0.out⟩
  · have sma := hL.out rfl a (by simp)
    have smb := hL.out rfl b (by simp)
    clear hL
    replace sma := Lib.hid sma
    replace smb := Lib.hid smb
    have ha2 := Lib.hid (BatV.same ha.out s0.out)
    go_wp2_with (first | (refine load_row rfl _ _ rfl w.heap.size rfl _ _ _ _ (sa.out.at hba.out) Try.underlying24 rfl hinfA.out ?_))
    refine (hpa.out _ ha2.out).mono ?_
    rintro e w3 ⟨P, rfl, hP, hs⟩
    replace s0 := Lib.hid (s0.out.trans hs)
    replace sa := Lib.hid (sa.out.trans hs)
    replace sb := Lib.hid (sb.out.trans hs)
    clear hs
    clear ha2
    replace hP := Lib.hid hP
    cases P
    · clear hP
      go_wp2_with fail
      refine (hl.out _).mono ?_
      rintro e w4 ⟨rfl, hs⟩
      replace s0 := Lib.hid (s0.out.trans hs)
      replace sa := Lib.hid (sa.out.trans hs)
      replace sb := Lib.hid (sb.out.trans hs)
      clear hs
      go_wp2
      go_ret
      exact ⟨rfl, s0.out⟩
    · have hb3 := Lib.hid (BatV.same hb.out s0.out)
      go_wp2_with (first | (refine load_row rfl _ _ rfl w0.heap.size rfl _ _ _ _ (sb.out.at hbb.out) Try.underlying24 rfl hinfB.out ?_))
      refine (hpb.out _ hb3.out).mono ?_
      rintro e w4 ⟨P2, rfl, hP2, hs⟩
      replace s0 := Lib.hid (s0.out.trans hs)
      replace sa := Lib.hid (sa.out.trans hs)
      replace sb := Lib.hid (sb.out.trans hs)
      clear hs
      clear hb3
      replace hP2 := Lib.hid hP2
      cases P2
      · clear hP2
        go_wp2_with fail
        refine (hl.out _).mono ?_
        rintro e w5 ⟨rfl, hs⟩
        replace s0 := Lib.hid (s0.out.trans hs)
        replace sa := Lib.hid (sa.out.trans hs)
        replace sb := Lib.hid (sb.out.trans hs)
        clear hs
        go_wp2
        go_ret
        exact ⟨rfl, s0.out⟩
      · have pla := hP.out (by simp)
        have plb := hP2.out (by simp)
        have hinj := batPut_inj ha.out hb.out pla plb
        have ha4 := Lib.hid (BatV.same ha.out s0.out)
        have hb4 := Lib.hid (BatV.same hb.out s0.out)
        clear hP hP2 pla plb hpa hpb
        replace hinj := Lib.hid hinj
        go_wp2_with (first | (refine load_row rfl _ _ rfl w.heap.size rfl _ _ _ _ (sa.out.at hba.out) Try.underlying24 rfl hinfA.out ?_) | (refine load_row rfl _ _ rfl w0.heap.size rfl _ _ _ _ (sb.out.at hbb.out) Try.underlying24 rfl hinfB.out ?_))
        refine (hsm.out _ ha4.out hb4.out).mono ?_
        rintro e w5 ⟨rfl, hs⟩
        replace s0 := Lib.hid (s0.out.trans hs)
        replace sa := Lib.hid (sa.out.trans hs)
        replace sb := Lib.hid (sb.out.trans hs)
        clear hs
        clear ha4 hb4
        have hpA := fun w h => bput_any none 0 0 [] a w (Sl.none w 1) (by omega) h sma.out
        have hpB := fun w h => bput_any none 0 0 [] b w (Sl.none w 1) (by omega) h smb.out
        simp only [List.nil_append] at hpA hpB
        have hdA := fun w h => bdig_any a w h sma.out
        have hdB := fun w h => bdig_any b w h smb.out
        have hrA := fun w h => rbdig_any a w h sma.out
        have hrB := fun w h => rbdig_any b w h smb.out
        have hDAl := batDig_length a.noop a.reqs
        have hDBl := batDig_length b.noop b.reqs
        have hST : S = true → batPut a.noop a.reqs = batPut b.noop b.reqs ∧ batDig a.noop a.reqs = batDig b.noop b.reqs := by
          intro h
          rw [hS.out] at h
          obtain ⟨h1, h2⟩ := (batSame_iff a b).1 h
          rw [h1, h2]
          exact ⟨rfl, rfl⟩
        have hSF : S = false → batPut a.noop a.reqs ≠ batPut b.noop b.reqs := by
          intro h h2
          have := (batSame_iff a b).2 (hinj.out h2)
          rw [← hS.out, h] at this
          cases this
        obtain ⟨A, hA⟩ : ∃ A, A = batPut a.noop a.reqs := ⟨_, rfl⟩
        obtain ⟨B, hB⟩ : ∃ B, B = batPut b.noop b.reqs := ⟨_, rfl⟩
        obtain ⟨DA, hDA⟩ : ∃ D, D = batDig a.noop a.reqs := ⟨_, rfl⟩
        obtain ⟨DB, hDB⟩ : ∃ D, D = batDig b.noop b.reqs := ⟨_, rfl⟩
        rw [← hA] at hpA hST hSF
        rw [← hB] at hpB hST hSF
        rw [← hDA] at hdA hrA hDAl hST
        rw [← hDB] at hdB hrB hDBl hST
        unfold RetS at hpA hpB
        have heD := fun w => dig_eql DA DB hDAl hDBl w
        have hgd := dig_guard
        obtain ⟨d, hd⟩ : ∃ d, d = (DA == DB) := ⟨_, rfl⟩
        rw [← hd] at heD
        have hdd : S = true → d = true := by
          intro h
          rw [hd, (hST h).2]
          simp
        have hAB : S = true → A = B := fun h => (hST h).1
        have ha5 := Lib.hid (BatV.same ha.out s0.out)
        have hb5 := Lib.hid (BatV.same hb.out s0.out)
        clear hA hB hDA hDB hd hST hinj hDAl hDBl
        replace hpA := Lib.hid hpA
        replace hpB := Lib.hid hpB
        replace hdA := Lib.hid hdA
        replace hdB := Lib.hid hdB
        replace hrA := Lib.hid hrA
        replace hrB := Lib.hid hrB
        replace heD := Lib.hid heD
        replace hgd := Lib.hid hgd
        replace hSF := Lib.hid hSF
        replace hdd := Lib.hid hdd
        replace hAB := Lib.hid hAB
        have hEq : (A == B) = S := by
          cases S
          · simpa using hSF.out rfl
          · simpa using hAB.out rfl
        replace hEq := Lib.hid hEq
        go_upto_region 4 with fail
        refine wp_region_facts (by kernel_rfl) [(25, 0), (26, 1), (27, 2), (28, 3), (29, 4), (30, 5), (31, 6), (32, 7), (33, 8)] Same (Same _) [isV (.agg a.cells.toArray), isB A, isV (str A), isV (.agg b.cells.toArray), isB B, isV (str B), isV (.bool S), isV (.bool S), isV (.bool false)] Same.refl.drew (fun _ _ h k => h.trans k) (by simp [isV_stable, isB_stable, isAny_stable]) (by decide) (by decide) ?_ ?_
        · refine ⟨?_, ?_, ?_, ?_, ?_, ?_, ?_, ?_, ?_, trivial⟩
          all_goals (intro u wx hI hp; simp only [mkAct, List.foldl_cons, List.foldl_nil, List.setIfInBounds_toArray, List.set_cons_succ, List.set_cons_zero])
          · -- operation 0
            go_wp2_with (refine load_row rfl _ _ rfl w.heap.size rfl _ _ _ _ (hI.at (sa.out.at hba.out)) Try.underlying24 rfl hinfA.out ?_)
            refine stq_v rfl Same.refl ?_
            first | (simp only [mkAct, List.foldl_cons, List.foldl_nil, List.setIfInBounds_toArray, List.set_cons_succ, List.set_cons_zero, upd, reduceIte, Nat.reduceEqDiff, Nat.reduceAdd, str]; done) | (simp [mkAct, upd, str, *]; done)
          · -- operation 1
            obtain ⟨f0, -⟩ := hp
            replace f0 : u 0 = (.agg a.cells.toArray) := f0
            try simp only [f0, str]
            go_wp2_with fail
            refine (hpA.out _ (BatV.same ha5.out hI)).mono ?_
            rintro e w1 ⟨ao', c', rfl, hsl', hs'⟩
            go_wp2
            refine stq_x (.slice ao' _ c') rfl ⟨ao', c', rfl, hsl'⟩ hs' ?_
            first | (simp only [mkAct, List.foldl_cons, List.foldl_nil, List.setIfInBounds_toArray, List.set_cons_succ, List.set_cons_zero, upd, reduceIte, Nat.reduceEqDiff, Nat.reduceAdd, f0, str]; done) | (simp [mkAct, upd, f0, str, *]; done)
          · -- operation 2
            obtain ⟨⟨ao1, c1, f1, hsl1⟩, -⟩ := hp
            try simp only [f1, str]
            go_wp2_with (refine conv_string rfl _ rfl byT u8T strT rfl hsl1 ?_)
            refine stq_v rfl Same.refl ?_
            first | (simp only [mkAct, List.foldl_cons, List.foldl_nil, List.setIfInBounds_toArray, List.set_cons_succ, List.set_cons_zero, upd, reduceIte, Nat.reduceEqDiff, Nat.reduceAdd, f1, str]; done) | (simp [mkAct, upd, f1, str, *]; done)
          · -- operation 3
            go_wp2_with (refine load_row rfl _ _ rfl w0.heap.size rfl _ _ _ _ (hI.at (sb.out.at hbb.out)) Try.underlying24 rfl hinfB.out ?_)
            refine stq_v rfl Same.refl ?_
            first | (simp only [mkAct, List.foldl_cons, List.foldl_nil, List.setIfInBounds_toArray, List.set_cons_succ, List.set_cons_zero, upd, reduceIte, Nat.reduceEqDiff, Nat.reduceAdd, str]; done) | (simp [mkAct, upd, str, *]; done)
          · -- operation 4
            obtain ⟨f3, -, -⟩ := hp
            replace f3 : u 3 = (.agg b.cells.toArray) := f3
            try simp only [f3, str]
            go_wp2_with fail
            refine (hpB.out _ (BatV.same hb5.out hI)).mono ?_
            rintro e w1 ⟨ao', c', rfl, hsl', hs'⟩
            go_wp2
            refine stq_x (.slice ao' _ c') rfl ⟨ao', c', rfl, hsl'⟩ hs' ?_
            first | (simp only [mkAct, List.foldl_cons, List.foldl_nil, List.setIfInBounds_toArray, List.set_cons_succ, List.set_cons_zero, upd, reduceIte, Nat.reduceEqDiff, Nat.reduceAdd, f3, str]; done) | (simp [mkAct, upd, f3, str, *]; done)
          · -- operation 5
            obtain ⟨⟨ao4, c4, f4, hsl4⟩, -⟩ := hp
            try simp only [f4, str]
            go_wp2_with (refine conv_string rfl _ rfl byT u8T strT rfl hsl4 ?_)
            refine stq_v rfl Same.refl ?_
            first | (simp only [mkAct, List.foldl_cons, List.foldl_nil, List.setIfInBounds_toArray, List.set_cons_succ, List.set_cons_zero, upd, reduceIte, Nat.reduceEqDiff, Nat.reduceAdd, f4, str]; done) | (simp [mkAct, upd, f4, str, *]; done)
          · -- operation 6
            obtain ⟨f2, f5, -⟩ := hp
            replace f2 : u 2 = (str A) := f2
            replace f5 : u 5 = (str B) := f5
            try simp only [f2, f5, str]
            have hEq2 := hEq.out
            go_wp2
            refine stq_v rfl Same.refl ?_
            first | (simp only [mkAct, List.foldl_cons, List.foldl_nil, List.setIfInBounds_toArray, List.set_cons_succ, List.set_cons_zero, upd, reduceIte, Nat.reduceEqDiff, Nat.reduceAdd, f2, f5, str]; done) | (simp [mkAct, upd, f2, f5, str, *]; done)
          · -- operation 7
            go_wp2
            refine stq_v rfl Same.refl ?_
            first | (simp only [mkAct, List.foldl_cons, List.foldl_nil, List.setIfInBounds_toArray, List.set_cons_succ, List.set_cons_zero, upd, reduceIte, Nat.reduceEqDiff, Nat.reduceAdd, str]; done) | (simp [mkAct, upd, str, *]; done)
          · -- operation 8
            obtain ⟨f6, f7, -⟩ := hp
            replace f6 : u 6 = (.bool S) := f6
            replace f7 : u 7 = (.bool S) := f7
            try simp only [f6, f7, str]
            go_wp2
            refine stq_v rfl Same.refl ?_
            first | (simp only [mkAct, List.foldl_cons, List.foldl_nil, List.setIfInBounds_toArray, List.set_cons_succ, List.set_cons_zero, upd, reduceIte, Nat.reduceEqDiff, Nat.reduceAdd, f6, f7, str]; done) | (simp [mkAct, upd, f6, f7, str, *]; done)
        · intro u wx hI hR
          obtain ⟨r0, r1, r2, r3, r4, r5, r6, r7, r8, -⟩ := hR
          replace r0 : u 0 = (.agg a.cells.toArray) := r0
          obtain ⟨ao1, c1, r1, hsl1⟩ := r1
          replace r2 : u 2 = (str A) := r2
          replace r3 : u 3 = (.agg b.cells.toArray) := r3
          obtain ⟨ao4, c4, r4, hsl4⟩ := r4
          replace r5 : u 5 = (str B) := r5
          replace r6 : u 6 = (.bool S) := r6
          replace r7 : u 7 = (.bool S) := r7
          replace r8 : u 8 = (.bool false) := r8
          simp only [mkAct, List.foldl_cons, List.foldl_nil, List.setIfInBounds_toArray, List.set_cons_succ, List.set_cons_zero]
          try simp only [str, r0, r1, r2, r3, r4, r5, r6, r7, r8]
          replace s0 := Lib.hid (s0.out.trans hI)
          replace sa := Lib.hid (sa.out.trans hI)
          replace sb := Lib.hid (sb.out.trans hI)
          have ha5 := Lib.hid (BatV.same ha5.out hI)
          have hb5 := Lib.hid (BatV.same hb5.out hI)
          clear hI r0 r1 r2 r3 r4 r5 r6 r7 r8
          go_upto_region 6 with fail
          have hddd : (d == d) = true := by simp
          cases S
          · clear hdd hAB
            refine wp_region_tails (by kernel_rfl) [(34, 0), (35, 1), (36, 2), (37, 3), (38, 4), (39, 5), (40, 6), (41, 7), (42, 8), (43, 9), (44, 10), (45, 11), (46, 12), (47, 13), (48, 14), (49, 15), (50, 16), (51, 17), (52, 18), (53, 19), (54, 20), (55, 21), (56, 22), (57, 23), (58, 24)] Same (Same _) [isV (.agg a.cells.toArray), isV (.agg (bv DA).toArray), isV (.agg b.cells.toArray), isV (.agg (bv DB).toArray), isV (.bool d), isV (.agg a.cells.toArray), isV (.agg (bv DA).toArray), isV (.agg b.cells.toArray), isV (.agg (bv DB).toArray), isV (.bool d), isV (.bool true), isV (.bool true), isV (.bool false), isV (.bool true), isV (.bool true), isV undef, isV undef, isV undef, isV undef, isV undef, isV (.bool true), isV (.bool true), isV (.bool true), isV (.bool true), isV (.bool true)] Same.refl.drew (fun _ _ h k => h.trans k) (by simp [isV_stable, isB_stable, isAny_stable]) (by decide) (l := [_, _, _, _, _, _, _, _, _, _, _, _, _, _, _, _, _, _, _, _, _, _, _, _, _]) rfl (by decide) (by kernel_rfl) ?_ ?_
            · refine ⟨?_, ?_, ?_, ?_, ?_, ?_, ?_, ?_, ?_, ?_, ?_, ?_, ?_, ?_, ?_, ?_, ?_, ?_, ?_, ?_, ?_, ?_, ?_, ?_, ?_, trivial⟩
              all_goals (intro u wx hI hp; simp only [mkAct, List.foldl_cons, List.foldl_nil, List.setIfInBounds_toArray, List.set_cons_succ, List.set_cons_zero])
              · -- operation 0
                go_wp2_with (refine load_row rfl _ _ rfl w.heap.size rfl _ _ _ _ (hI.at (sa.out.at hba.out)) Try.underlying24 rfl hinfA.out ?_)
                refine stq_v rfl Same.refl ?_
                first | (simp only [mkAct, List.foldl_cons, List.foldl_nil, List.setIfInBounds_toArray, List.set_cons_succ, List.set_cons_zero, upd, reduceIte, Nat.reduceEqDiff, Nat.reduceAdd, str]; done) | (simp [mkAct, upd, str, *]; done)
              · -- operation 1
                obtain ⟨f0, -⟩ := hp
                replace f0 : u 0 = (.agg a.cells.toArray) := f0
                try simp only [f0, str]
                go_wp2_with fail
                refine (hdA.out _ (BatV.same ha5.out hI)).mono ?_
                rintro e w1 ⟨rfl, hs'⟩
                go_wp2
                refine stq_v rfl hs' ?_
                first | (simp only [mkAct, List.foldl_cons, List.foldl_nil, List.setIfInBounds_toArray, List.set_cons_succ, List.set_cons_zero, upd, reduceIte, Nat.reduceEqDiff, Nat.reduceAdd, f0, str]; done) | (simp [mkAct, upd, f0, str, *]; done)
              · -- operation 2
                go_wp2_with (refine load_row rfl _ _ rfl w0.heap.size rfl _ _ _ _ (hI.at (sb.out.at hbb.out)) Try.underlying24 rfl hinfB.out ?_)
                refine stq_v rfl Same.refl ?_
                first | (simp only [mkAct, List.foldl_cons, List.foldl_nil, List.setIfInBounds_toArray, List.set_cons_succ, List.set_cons_zero, upd, reduceIte, Nat.reduceEqDiff, Nat.reduceAdd, str]; done) | (simp [mkAct, upd, str, *]; done)
              · -- operation 3
                obtain ⟨f2, -, -⟩ := hp
                replace f2 : u 2 = (.agg b.cells.toArray) := f2
                try simp only [f2, str]
                go_wp2_with fail
                refine (hdB.out _ (BatV.same hb5.out hI)).mono ?_
                rintro e w1 ⟨rfl, hs'⟩
                go_wp2
                refine stq_v rfl hs' ?_
                first | (simp only [mkAct, List.foldl_cons, List.foldl_nil, List.setIfInBounds_toArray, List.set_cons_succ, List.set_cons_zero, upd, reduceIte, Nat.reduceEqDiff, Nat.reduceAdd, f2, str]; done) | (simp [mkAct, upd, f2, str, *]; done)
              · -- operation 4
                obtain ⟨f1, f3, -⟩ := hp
                replace f1 : u 1 = (.agg (bv DA).toArray) := f1
                replace f3 : u 3 = (.agg (bv DB).toArray) := f3
                try simp only [f1, f3, str]
                have heD := heD.out
                have hgd := hgd.out
                go_wp2
                refine stq_v rfl Same.refl ?_
                first | (simp only [mkAct, List.foldl_cons, List.foldl_nil, List.setIfInBounds_toArray, List.set_cons_succ, List.set_cons_zero, upd, reduceIte, Nat.reduceEqDiff, Nat.reduceAdd, f1, f3, str]; done) | (simp [mkAct, upd, f1, f3, str, *]; done)
              · -- operation 5
                go_wp2_with (refine load_row rfl _ _ rfl w.heap.size rfl _ _ _ _ (hI.at (sa.out.at hba.out)) Try.underlying24 rfl hinfA.out ?_)
                refine stq_v rfl Same.refl ?_
                first | (simp only [mkAct, List.foldl_cons, List.foldl_nil, List.setIfInBounds_toArray, List.set_cons_succ, List.set_cons_zero, upd, reduceIte, Nat.reduceEqDiff, Nat.reduceAdd, str]; done) | (simp [mkAct, upd, str, *]; done)
              · -- operation 6
                obtain ⟨f5, -, -⟩ := hp
                replace f5 : u 5 = (.agg a.cells.toArray) := f5
                try simp only [f5, str]
                go_wp2_with fail
                refine (hrA.out _ (BatV.same ha5.out hI)).mono ?_
                rintro e w1 ⟨rfl, hs'⟩
                go_wp2
                refine stq_v rfl hs' ?_
                first | (simp only [mkAct, List.foldl_cons, List.foldl_nil, List.setIfInBounds_toArray, List.set_cons_succ, List.set_cons_zero, upd, reduceIte, Nat.reduceEqDiff, Nat.reduceAdd, f5, str]; done) | (simp [mkAct, upd, f5, str, *]; done)
              · -- operation 7
                go_wp2_with (refine load_row rfl _ _ rfl w0.heap.size rfl _ _ _ _ (hI.at (sb.out.at hbb.out)) Try.underlying24 rfl hinfB.out ?_)
                refine stq_v rfl Same.refl ?_
                first | (simp only [mkAct, List.foldl_cons, List.foldl_nil, List.setIfInBounds_toArray, List.set_cons_succ, List.set_cons_zero, upd, reduceIte, Nat.reduceEqDiff, Nat.reduceAdd, str]; done) | (simp [mkAct, upd, str, *]; done)
              · -- operation 8
                obtain ⟨f7, -, -⟩ := hp
                replace f7 : u 7 = (.agg b.cells.toArray) := f7
                try simp only [f7, str]
                go_wp2_with fail
                refine (hrB.out _ (BatV.same hb5.out hI)).mono ?_
                rintro e w1 ⟨rfl, hs'⟩
                go_wp2
                refine stq_v rfl hs' ?_
                first | (simp only [mkAct, List.foldl_cons, List.foldl_nil, List.setIfInBounds_toArray, List.set_cons_succ, List.set_cons_zero, upd, reduceIte, Nat.reduceEqDiff, Nat.reduceAdd, f7, str]; done) | (simp [mkAct, upd, f7, str, *]; done)
              · -- operation 9
                obtain ⟨f6, f8, -⟩ := hp
                replace f6 : u 6 = (.agg (bv DA).toArray) := f6
                replace f8 : u 8 = (.agg (bv DB).toArray) := f8
                try simp only [f6, f8, str]
                have heD := heD.out
                have hgd := hgd.out
                go_wp2
                refine stq_v rfl Same.refl ?_
                first | (simp only [mkAct, List.foldl_cons, List.foldl_nil, List.setIfInBounds_toArray, List.set_cons_succ, List.set_cons_zero, upd, reduceIte, Nat.reduceEqDiff, Nat.reduceAdd, f6, f8, str]; done) | (simp [mkAct, upd, f6, f8, str, *]; done)
              · -- operation 10
                obtain ⟨f4, f9, -⟩ := hp
                replace f4 : u 4 = (.bool d) := f4
                replace f9 : u 9 = (.bool d) := f9
                try simp only [f4, f9, str]
                go_wp2
                refine stq_v rfl Same.refl ?_
                first | (simp only [mkAct, List.foldl_cons, List.foldl_nil, List.setIfInBounds_toArray, List.set_cons_succ, List.set_cons_zero, upd, reduceIte, Nat.reduceEqDiff, Nat.reduceAdd, f4, f9, str]; done) | (simp [mkAct, upd, f4, f9, str, *]; done)
              · -- operation 11
                obtain ⟨f10, -, -⟩ := hp
                replace f10 : u 10 = (.bool true) := f10
                try simp only [f10, str]
                go_wp2
                refine stq_v rfl Same.refl ?_
                first | (simp only [mkAct, List.foldl_cons, List.foldl_nil, List.setIfInBounds_toArray, List.set_cons_succ, List.set_cons_zero, upd, reduceIte, Nat.reduceEqDiff, Nat.reduceAdd, f10, str]; done) | (simp [mkAct, upd, f10, str, *]; done)
              · -- operation 12
                obtain ⟨f11, -⟩ := hp
                replace f11 : u 11 = (.bool true) := f11
                try simp only [f11, str]
                go_wp2
                refine stq_v rfl Same.refl ?_
                first | (simp only [mkAct, List.foldl_cons, List.foldl_nil, List.setIfInBounds_toArray, List.set_cons_succ, List.set_cons_zero, upd, reduceIte, Nat.reduceEqDiff, Nat.reduceAdd, f11, str]; done) | (simp [mkAct, upd, f11, str, *]; done)
              · -- operation 13
                obtain ⟨f12, f11, -⟩ := hp
                replace f12 : u 12 = (.bool false) := f12
                replace f11 : u 11 = (.bool true) := f11
                try simp only [f12, f11, str]
                go_wp2
                refine stq_v rfl Same.refl ?_
                first | (simp only [mkAct, List.foldl_cons, List.foldl_nil, List.setIfInBounds_toArray, List.set_cons_succ, List.set_cons_zero, upd, reduceIte, Nat.reduceEqDiff, Nat.reduceAdd, f12, f11, str]; done) | (simp [mkAct, upd, f12, f11, str, *]; done)
              · -- operation 14
                obtain ⟨f13, -, f11, -⟩ := hp
                replace f13 : u 13 = (.bool true) := f13
                replace f11 : u 11 = (.bool true) := f11
                try simp only [f13, f11, str]
                go_wp2
                refine stq_v rfl Same.refl ?_
                first | (simp only [mkAct, List.foldl_cons, List.foldl_nil, List.setIfInBounds_toArray, List.set_cons_succ, List.set_cons_zero, upd, reduceIte, Nat.reduceEqDiff, Nat.reduceAdd, f13, f11, str]; done) | (simp [mkAct, upd, f13, f11, str, *]; done)
              · -- operation 15
                obtain ⟨f14, -⟩ := hp
                replace f14 : u 14 = (.bool true) := f14
                try simp only [f14, str]
                go_wp2
                refine stq_v rfl Same.refl ?_
                first | (simp only [mkAct, List.foldl_cons, List.foldl_nil, List.setIfInBounds_toArray, List.set_cons_succ, List.set_cons_zero, upd, reduceIte, Nat.reduceEqDiff, Nat.reduceAdd, f14, str]; done) | (simp [mkAct, upd, f14, str, *]; done)
              · -- operation 16
                obtain ⟨f15, -, f14, -⟩ := hp
                replace f15 : u 15 = undef := f15
                replace f14 : u 14 = (.bool true) := f14
                try simp only [f15, f14, str]
                go_wp2
                refine stq_v rfl Same.refl ?_
                first | (simp only [mkAct, List.foldl_cons, List.foldl_nil, List.setIfInBounds_toArray, List.set_cons_succ, List.set_cons_zero, upd, reduceIte, Nat.reduceEqDiff, Nat.reduceAdd, f15, f14, str]; done) | (simp [mkAct, upd, f15, f14, str, *]; done)
              · -- operation 17
                obtain ⟨f14, -⟩ := hp
                replace f14 : u 14 = (.bool true) := f14
                try simp only [f14, str]
                go_wp2
                refine stq_v rfl Same.refl ?_
                first | (simp only [mkAct, List.foldl_cons, List.foldl_nil, List.setIfInBounds_toArray, List.set_cons_succ, List.set_cons_zero, upd, reduceIte, Nat.reduceEqDiff, Nat.reduceAdd, f14, str]; done) | (simp [mkAct, upd, f14, str, *]; done)
              · -- operation 18
                obtain ⟨f17, -, f14, -⟩ := hp
                replace f17 : u 17 = undef := f17
                replace f14 : u 14 = (.bool true) := f14
                try simp only [f17, f14, str]
                go_wp2
                refine stq_v rfl Same.refl ?_
                first | (simp only [mkAct, List.foldl_cons, List.foldl_nil, List.setIfInBounds_toArray, List.set_cons_succ, List.set_cons_zero, upd, reduceIte, Nat.reduceEqDiff, Nat.reduceAdd, f17, f14, str]; done) | (simp [mkAct, upd, f17, f14, str, *]; done)
              · -- operation 19
                obtain ⟨f16, f18, f14, -⟩ := hp
                replace f16 : u 16 = undef := f16
                replace f18 : u 18 = undef := f18
                replace f14 : u 14 = (.bool true) := f14
                try simp only [f16, f18, f14, str]
                go_wp2
                refine stq_v rfl Same.refl ?_
                first | (simp only [mkAct, List.foldl_cons, List.foldl_nil, List.setIfInBounds_toArray, List.set_cons_succ, List.set_cons_zero, upd, reduceIte, Nat.reduceEqDiff, Nat.reduceAdd, f16, f18, f14, str]; done) | (simp [mkAct, upd, f16, f18, f14, str, *]; done)
              · -- operation 20
                obtain ⟨f14, f19, f11, -⟩ := hp
                replace f14 : u 14 = (.bool true) := f14
                replace f19 : u 19 = undef := f19
                replace f11 : u 11 = (.bool true) := f11
                try simp only [f14, f19, f11, str]
                go_wp2
                refine stq_v rfl Same.refl ?_
                first | (simp only [mkAct, List.foldl_cons, List.foldl_nil, List.setIfInBounds_toArray, List.set_cons_succ, List.set_cons_zero, upd, reduceIte, Nat.reduceEqDiff, Nat.reduceAdd, f14, f19, f11, str]; done) | (simp [mkAct, upd, f14, f19, f11, str, *]; done)
              · -- operation 21
                obtain ⟨f11, f20, -⟩ := hp
                replace f11 : u 11 = (.bool true) := f11
                replace f20 : u 20 = (.bool true) := f20
                try simp only [f11, f20, str]
                go_wp2
                refine stq_v rfl Same.refl ?_
                first | (simp only [mkAct, List.foldl_cons, List.foldl_nil, List.setIfInBounds_toArray, List.set_cons_succ, List.set_cons_zero, upd, reduceIte, Nat.reduceEqDiff, Nat.reduceAdd, f11, f20, str]; done) | (simp [mkAct, upd, f11, f20, str, *]; done)
              · -- operation 22
                obtain ⟨f21, -, -⟩ := hp
                replace f21 : u 21 = (.bool true) := f21
                try simp only [f21, str]
                go_wp2
                refine stq_v rfl Same.refl ?_
                first | (simp only [mkAct, List.foldl_cons, List.foldl_nil, List.setIfInBounds_toArray, List.set_cons_succ, List.set_cons_zero, upd, reduceIte, Nat.reduceEqDiff, Nat.reduceAdd, f21, str]; done) | (simp [mkAct, upd, f21, str, *]; done)
              · -- operation 23
                obtain ⟨-, f22, -⟩ := hp
                replace f22 : u 22 = (.bool true) := f22
                try simp only [f22, str]
                go_wp2_with fail
                refine (hl.out _).mono ?_
                rintro e w1 ⟨rfl, hs'⟩
                go_wp2
                refine stq_v rfl hs' ?_
                first | (simp only [mkAct, List.foldl_cons, List.foldl_nil, List.setIfInBounds_toArray, List.set_cons_succ, List.set_cons_zero, upd, reduceIte, Nat.reduceEqDiff, Nat.reduceAdd, f22, str]; done) | (simp [mkAct, upd, f22, str, *]; done)
              · -- operation 24
                obtain ⟨f22, f23, -⟩ := hp
                replace f22 : u 22 = (.bool true) := f22
                replace f23 : u 23 = (.bool true) := f23
                try simp only [f22, f23, str]
                go_wp2
                refine stq_v rfl Same.refl ?_
                first | (simp only [mkAct, List.foldl_cons, List.foldl_nil, List.setIfInBounds_toArray, List.set_cons_succ, List.set_cons_zero, upd, reduceIte, Nat.reduceEqDiff, Nat.reduceAdd, f22, f23, str]; done) | (simp [mkAct, upd, f22, f23, str, *]; done)
            · intro u wx hI hR
              obtain ⟨r0, r1, r2, r3, r4, r5, r6, r7, r8, r9, r10, r11, r12, r13, r14, r15, r16, r17, r18, r19, r20, r21, r22, r23, r24, -⟩ := hR
              replace r0 : u 0 = (.agg a.cells.toArray) := r0
              replace r1 : u 1 = (.agg (bv DA).toArray) := r1
              replace r2 : u 2 = (.agg b.cells.toArray) := r2
              replace r3 : u 3 = (.agg (bv DB).toArray) := r3
              replace r4 : u 4 = (.bool d) := r4
              replace r5 : u 5 = (.agg a.cells.toArray) := r5
              replace r6 : u 6 = (.agg (bv DA).toArray) := r6
              replace r7 : u 7 = (.agg b.cells.toArray) := r7
              replace r8 : u 8 = (.agg (bv DB).toArray) := r8
              replace r9 : u 9 = (.bool d) := r9
              replace r10 : u 10 = (.bool true) := r10
              replace r11 : u 11 = (.bool true) := r11
              replace r12 : u 12 = (.bool false) := r12
              replace r13 : u 13 = (.bool true) := r13
              replace r14 : u 14 = (.bool true) := r14
              replace r15 : u 15 = undef := r15
              replace r16 : u 16 = undef := r16
              replace r17 : u 17 = undef := r17
              replace r18 : u 18 = undef := r18
              replace r19 : u 19 = undef := r19
              replace r20 : u 20 = (.bool true) := r20
              replace r21 : u 21 = (.bool true) := r21
              replace r22 : u 22 = (.bool true) := r22
              replace r23 : u 23 = (.bool true) := r23
              replace r24 : u 24 = (.bool true) := r24
              simp only [mkAct, List.foldl_cons, List.foldl_nil, List.setIfInBounds_toArray, List.set_cons_succ, List.set_cons_zero]
              try simp only [str, r0, r1, r2, r3, r4, r5, r6, r7, r8, r9, r10, r11, r12, r13, r14, r15, r16, r17, r18, r19, r20, r21, r22, r23, r24]
              go_wp2
              go_ret
              exact ⟨rfl, s0.out.trans hI⟩
          · have hdt := hdd.out rfl
            subst hdt
            refine wp_region_tails (by kernel_rfl) [(34, 0), (35, 1), (36, 2), (37, 3), (38, 4), (39, 5), (40, 6), (41, 7), (42, 8), (43, 9), (44, 10), (45, 11), (46, 12), (47, 13), (48, 14), (49, 15), (50, 16), (51, 17), (52, 18), (53, 19), (54, 20), (55, 21), (56, 22), (57, 23), (58, 24)] Same (Same _) [isV (.agg a.cells.toArray), isV (.agg (bv DA).toArray), isV (.agg b.cells.toArray), isV (.agg (bv DB).toArray), isV (.bool true), isV (.agg a.cells.toArray), isV (.agg (bv DA).toArray), isV (.agg b.cells.toArray), isV (.agg (bv DB).toArray), isV (.bool true), isV (.bool true), isV (.bool true), isV (.bool true), isV (.bool false), isV (.bool false), isV (.agg a.cells.toArray), isV (.agg (bv DA).toArray), isV (.agg b.cells.toArray), isV (.agg (bv DB).toArray), isV (.bool true), isV (.bool true), isV (.bool true), isV (.bool true), isV (.bool true), isV (.bool true)] Same.refl.drew (fun _ _ h k => h.trans k) (by simp [isV_stable, isB_stable, isAny_stable]) (by decide) (l := [_, _, _, _, _, _, _, _, _, _, _, _, _, _, _, _, _, _, _, _, _, _, _, _, _]) rfl (by decide) (by kernel_rfl) ?_ ?_
            · refine ⟨?_, ?_, ?_, ?_, ?_, ?_, ?_, ?_, ?_, ?_, ?_, ?_, ?_, ?_, ?_, ?_, ?_, ?_, ?_, ?_, ?_, ?_, ?_, ?_, ?_, trivial⟩
              all_goals (intro u wx hI hp; simp only [mkAct, List.foldl_cons, List.foldl_nil, List.setIfInBounds_toArray, List.set_cons_succ, List.set_cons_zero])
              · -- operation 0
                go_wp2_with (refine load_row rfl _ _ rfl w.heap.size rfl _ _ _ _ (hI.at (sa.out.at hba.out)) Try.underlying24 rfl hinfA.out ?_)
                refine stq_v rfl Same.refl ?_
                first | (simp only [mkAct, List.foldl_cons, List.foldl_nil, List.setIfInBounds_toArray, List.set_cons_succ, List.set_cons_zero, upd, reduceIte, Nat.reduceEqDiff, Nat.reduceAdd, str]; done) | (simp [mkAct, upd, str, *]; done)
              · -- operation 1
                obtain ⟨f0, -⟩ := hp
                replace f0 : u 0 = (.agg a.cells.toArray) := f0
                try simp only [f0, str]
                go_wp2_with fail
                refine (hdA.out _ (BatV.same ha5.out hI)).mono ?_
                rintro e w1 ⟨rfl, hs'⟩
                go_wp2
                refine stq_v rfl hs' ?_
                first | (simp only [mkAct, List.foldl_cons, List.foldl_nil, List.setIfInBounds_toArray, List.set_cons_succ, List.set_cons_zero, upd, reduceIte, Nat.reduceEqDiff, Nat.reduceAdd, f0, str]; done) | (simp [mkAct, upd, f0, str, *]; done)
              · -- operation 2
                go_wp2_with (refine load_row rfl _ _ rfl w0.heap.size rfl _ _ _ _ (hI.at (sb.out.at hbb.out)) Try.underlying24 rfl hinfB.out ?_)
                refine stq_v rfl Same.refl ?_
                first | (simp only [mkAct, List.foldl_cons, List.foldl_nil, List.setIfInBounds_toArray, List.set_cons_succ, List.set_cons_zero, upd, reduceIte, Nat.reduceEqDiff, Nat.reduceAdd, str]; done) | (simp [mkAct, upd, str, *]; done)
              · -- operation 3
                obtain ⟨f2, -, -⟩ := hp
                replace f2 : u 2 = (.agg b.cells.toArray) := f2
                try simp only [f2, str]
                go_wp2_with fail
                refine (hdB.out _ (BatV.same hb5.out hI)).mono ?_
                rintro e w1 ⟨rfl, hs'⟩
                go_wp2
                refine stq_v rfl hs' ?_
                first | (simp only [mkAct, List.foldl_cons, List.foldl_nil, List.setIfInBounds_toArray, List.set_cons_succ, List.set_cons_zero, upd, reduceIte, Nat.reduceEqDiff, Nat.reduceAdd, f2, str]; done) | (simp [mkAct, upd, f2, str, *]; done)
              · -- operation 4
                obtain ⟨f1, f3, -⟩ := hp
                replace f1 : u 1 = (.agg (bv DA).toArray) := f1
                replace f3 : u 3 = (.agg (bv DB).toArray) := f3
                try simp only [f1, f3, str]
                have heD := heD.out
                have hgd := hgd.out
                go_wp2
                refine stq_v rfl Same.refl ?_
                first | (simp only [mkAct, List.foldl_cons, List.foldl_nil, List.setIfInBounds_toArray, List.set_cons_succ, List.set_cons_zero, upd, reduceIte, Nat.reduceEqDiff, Nat.reduceAdd, f1, f3, str]; done) | (simp [mkAct, upd, f1, f3, str, *]; done)
              · -- operation 5
                go_wp2_with (refine load_row rfl _ _ rfl w.heap.size rfl _ _ _ _ (hI.at (sa.out.at hba.out)) Try.underlying24 rfl hinfA.out ?_)
                refine stq_v rfl Same.refl ?_
                first | (simp only [mkAct, List.foldl_cons, List.foldl_nil, List.setIfInBounds_toArray, List.set_cons_succ, List.set_cons_zero, upd, reduceIte, Nat.reduceEqDiff, Nat.reduceAdd, str]; done) | (simp [mkAct, upd, str, *]; done)
              · -- operation 6
                obtain ⟨f5, -, -⟩ := hp
                replace f5 : u 5 = (.agg a.cells.toArray) := f5
                try simp only [f5, str]
                go_wp2_with fail
                refine (hrA.out _ (BatV.same ha5.out hI)).mono ?_
                rintro e w1 ⟨rfl, hs'⟩
                go_wp2
                refine stq_v rfl hs' ?_
                first | (simp only [mkAct, List.foldl_cons, List.foldl_nil, List.setIfInBounds_toArray, List.set_cons_succ, List.set_cons_zero, upd, reduceIte, Nat.reduceEqDiff, Nat.reduceAdd, f5, str]; done) | (simp [mkAct, upd, f5, str, *]; done)
              · -- operation 7
                go_wp2_with (refine load_row rfl _ _ rfl w0.heap.size rfl _ _ _ _ (hI.at (sb.out.at hbb.out)) Try.underlying24 rfl hinfB.out ?_)
                refine stq_v rfl Same.refl ?_
                first | (simp only [mkAct, List.foldl_cons, List.foldl_nil, List.setIfInBounds_toArray, List.set_cons_succ, List.set_cons_zero, upd, reduceIte, Nat.reduceEqDiff, Nat.reduceAdd, str]; done) | (simp [mkAct, upd, str, *]; done)
              · -- operation 8
                obtain ⟨f7, -, -⟩ := hp
                replace f7 : u 7 = (.agg b.cells.toArray) := f7
                try simp only [f7, str]
                go_wp2_with fail
                refine (hrB.out _ (BatV.same hb5.out hI)).mono ?_
                rintro e w1 ⟨rfl, hs'⟩
                go_wp2
                refine stq_v rfl hs' ?_
                first | (simp only [mkAct, List.foldl_cons, List.foldl_nil, List.setIfInBounds_toArray, List.set_cons_succ, List.set_cons_zero, upd, reduceIte, Nat.reduceEqDiff, Nat.reduceAdd, f7, str]; done) | (simp [mkAct, upd, f7, str, *]; done)
              · -- operation 9
                obtain ⟨f6, f8, -⟩ := hp
                replace f6 : u 6 = (.agg (bv DA).toArray) := f6
                replace f8 : u 8 = (.agg (bv DB).toArray) := f8
                try simp only [f6, f8, str]
                have heD := heD.out
                have hgd := hgd.out
                go_wp2
                refine stq_v rfl Same.refl ?_
                first | (simp only [mkAct, List.foldl_cons, List.foldl_nil, List.setIfInBounds_toArray, List.set_cons_succ, List.set_cons_zero, upd, reduceIte, Nat.reduceEqDiff, Nat.reduceAdd, f6, f8, str]; done) | (simp [mkAct, upd, f6, f8, str, *]; done)
              · -- operation 10
                obtain ⟨f4, f9, -⟩ := hp
                replace f4 : u 4 = (.bool true) := f4
                replace f9 : u 9 = (.bool true) := f9
                try simp only [f4, f9, str]
                go_wp2
                refine stq_v rfl Same.refl ?_
                first | (simp only [mkAct, List.foldl_cons, List.foldl_nil, List.setIfInBounds_toArray, List.set_cons_succ, List.set_cons_zero, upd, reduceIte, Nat.reduceEqDiff, Nat.reduceAdd, f4, f9, str]; done) | (simp [mkAct, upd, f4, f9, str, *]; done)
              · -- operation 11
                obtain ⟨f10, -, -⟩ := hp
                replace f10 : u 10 = (.bool true) := f10
                try simp only [f10, str]
                go_wp2
                refine stq_v rfl Same.refl ?_
                first | (simp only [mkAct, List.foldl_cons, List.foldl_nil, List.setIfInBounds_toArray, List.set_cons_succ, List.set_cons_zero, upd, reduceIte, Nat.reduceEqDiff, Nat.reduceAdd, f10, str]; done) | (simp [mkAct, upd, f10, str, *]; done)
              · -- operation 12
                obtain ⟨f11, -⟩ := hp
                replace f11 : u 11 = (.bool true) := f11
                try simp only [f11, str]
                go_wp2
                refine stq_v rfl Same.refl ?_
                first | (simp only [mkAct, List.foldl_cons, List.foldl_nil, List.setIfInBounds_toArray, List.set_cons_succ, List.set_cons_zero, upd, reduceIte, Nat.reduceEqDiff, Nat.reduceAdd, f11, str]; done) | (simp [mkAct, upd, f11, str, *]; done)
              · -- operation 13
                obtain ⟨f12, f11, -⟩ := hp
                replace f12 : u 12 = (.bool true) := f12
                replace f11 : u 11 = (.bool true) := f11
                try simp only [f12, f11, str]
                go_wp2
                refine stq_v rfl Same.refl ?_
                first | (simp only [mkAct, List.foldl_cons, List.foldl_nil, List.setIfInBounds_toArray, List.set_cons_succ, List.set_cons_zero, upd, reduceIte, Nat.reduceEqDiff, Nat.reduceAdd, f12, f11, str]; done) | (simp [mkAct, upd, f12, f11, str, *]; done)
              · -- operation 14
                obtain ⟨f13, -, f11, -⟩ := hp
                replace f13 : u 13 = (.bool false) := f13
                replace f11 : u 11 = (.bool true) := f11
                try simp only [f13, f11, str]
                go_wp2
                refine stq_v rfl Same.refl ?_
                first | (simp only [mkAct, List.foldl_cons, List.foldl_nil, List.setIfInBounds_toArray, List.set_cons_succ, List.set_cons_zero, upd, reduceIte, Nat.reduceEqDiff, Nat.reduceAdd, f13, f11, str]; done) | (simp [mkAct, upd, f13, f11, str, *]; done)
              · -- operation 15
                obtain ⟨f14, -⟩ := hp
                replace f14 : u 14 = (.bool false) := f14
                try simp only [f14, str]
                go_wp2_with (refine load_row rfl _ _ rfl w.heap.size rfl _ _ _ _ (hI.at (sa.out.at hba.out)) Try.underlying24 rfl hinfA.out ?_)
                refine stq_v rfl Same.refl ?_
                first | (simp only [mkAct, List.foldl_cons, List.foldl_nil, List.setIfInBounds_toArray, List.set_cons_succ, List.set_cons_zero, upd, reduceIte, Nat.reduceEqDiff, Nat.reduceAdd, f14, str]; done) | (simp [mkAct, upd, f14, str, *]; done)
              · -- operation 16
                obtain ⟨f15, -, f14, -⟩ := hp
                replace f15 : u 15 = (.agg a.cells.toArray) := f15
                replace f14 : u 14 = (.bool false) := f14
                try simp only [f15, f14, str]
                go_wp2_with fail
                refine (hdA.out _ (BatV.same ha5.out hI)).mono ?_
                rintro e w1 ⟨rfl, hs'⟩
                go_wp2
                refine stq_v rfl hs' ?_
                first | (simp only [mkAct, List.foldl_cons, List.foldl_nil, List.setIfInBounds_toArray, List.set_cons_succ, List.set_cons_zero, upd, reduceIte, Nat.reduceEqDiff, Nat.reduceAdd, f15, f14, str]; done) | (simp [mkAct, upd, f15, f14, str, *]; done)
              · -- operation 17
                obtain ⟨f14, -⟩ := hp
                replace f14 : u 14 = (.bool false) := f14
                try simp only [f14, str]
                go_wp2_with (refine load_row rfl _ _ rfl w0.heap.size rfl _ _ _ _ (hI.at (sb.out.at hbb.out)) Try.underlying24 rfl hinfB.out ?_)
                refine stq_v rfl Same.refl ?_
                first | (simp only [mkAct, List.foldl_cons, List.foldl_nil, List.setIfInBounds_toArray, List.set_cons_succ, List.set_cons_zero, upd, reduceIte, Nat.reduceEqDiff, Nat.reduceAdd, f14, str]; done) | (simp [mkAct, upd, f14, str, *]; done)
              · -- operation 18
                obtain ⟨f17, -, f14, -⟩ := hp
                replace f17 : u 17 = (.agg b.cells.toArray) := f17
                replace f14 : u 14 = (.bool false) := f14
                try simp only [f17, f14, str]
                go_wp2_with fail
                refine (hdB.out _ (BatV.same hb5.out hI)).mono ?_
                rintro e w1 ⟨rfl, hs'⟩
                go_wp2
                refine stq_v rfl hs' ?_
                first | (simp only [mkAct, List.foldl_cons, List.foldl_nil, List.setIfInBounds_toArray, List.set_cons_succ, List.set_cons_zero, upd, reduceIte, Nat.reduceEqDiff, Nat.reduceAdd, f17, f14, str]; done) | (simp [mkAct, upd, f17, f14, str, *]; done)
              · -- operation 19
                obtain ⟨f16, f18, f14, -⟩ := hp
                replace f16 : u 16 = (.agg (bv DA).toArray) := f16
                replace f18 : u 18 = (.agg (bv DB).toArray) := f18
                replace f14 : u 14 = (.bool false) := f14
                try simp only [f16, f18, f14, str]
                have heD := heD.out
                have hgd := hgd.out
                go_wp2
                refine stq_v rfl Same.refl ?_
                first | (simp only [mkAct, List.foldl_cons, List.foldl_nil, List.setIfInBounds_toArray, List.set_cons_succ, List.set_cons_zero, upd, reduceIte, Nat.reduceEqDiff, Nat.reduceAdd, f16, f18, f14, str]; done) | (simp [mkAct, upd, f16, f18, f14, str, *]; done)
              · -- operation 20
                obtain ⟨f14, f19, f11, -⟩ := hp
                replace f14 : u 14 = (.bool false) := f14
                replace f19 : u 19 = (.bool true) := f19
                replace f11 : u 11 = (.bool true) := f11
                try simp only [f14, f19, f11, str]
                go_wp2
                refine stq_v rfl Same.refl ?_
                first | (simp only [mkAct, List.foldl_cons, List.foldl_nil, List.setIfInBounds_toArray, List.set_cons_succ, List.set_cons_zero, upd, reduceIte, Nat.reduceEqDiff, Nat.reduceAdd, f14, f19, f11, str]; done) | (simp [mkAct, upd, f14, f19, f11, str, *]; done)
              · -- operation 21
                obtain ⟨f11, f20, -⟩ := hp
                replace f11 : u 11 = (.bool true) := f11
                replace f20 : u 20 = (.bool true) := f20
                try simp only [f11, f20, str]
                go_wp2
                refine stq_v rfl Same.refl ?_
                first | (simp only [mkAct, List.foldl_cons, List.foldl_nil, List.setIfInBounds_toArray, List.set_cons_succ, List.set_cons_zero, upd, reduceIte, Nat.reduceEqDiff, Nat.reduceAdd, f11, f20, str]; done) | (simp [mkAct, upd, f11, f20, str, *]; done)
              · -- operation 22
                obtain ⟨f21, -, -⟩ := hp
                replace f21 : u 21 = (.bool true) := f21
                try simp only [f21, str]
                go_wp2
                refine stq_v rfl Same.refl ?_
                first | (simp only [mkAct, List.foldl_cons, List.foldl_nil, List.setIfInBounds_toArray, List.set_cons_succ, List.set_cons_zero, upd, reduceIte, Nat.reduceEqDiff, Nat.reduceAdd, f21, str]; done) | (simp [mkAct, upd, f21, str, *]; done)
              · -- operation 23
                obtain ⟨-, f22, -⟩ := hp
                replace f22 : u 22 = (.bool true) := f22
                try simp only [f22, str]
                go_wp2_with fail
                refine (hl.out _).mono ?_
                rintro e w1 ⟨rfl, hs'⟩
                go_wp2
                refine stq_v rfl hs' ?_
                first | (simp only [mkAct, List.foldl_cons, List.foldl_nil, List.setIfInBounds_toArray, List.set_cons_succ, List.set_cons_zero, upd, reduceIte, Nat.reduceEqDiff, Nat.reduceAdd, f22, str]; done) | (simp [mkAct, upd, f22, str, *]; done)
              · -- operation 24
                obtain ⟨f22, f23, -⟩ := hp
                replace f22 : u 22 = (.bool true) := f22
                replace f23 : u 23 = (.bool true) := f23
                try simp only [f22, f23, str]
                go_wp2
                refine stq_v rfl Same.refl ?_
                first | (simp only [mkAct, List.foldl_cons, List.foldl_nil, List.setIfInBounds_toArray, List.set_cons_succ, List.set_cons_zero, upd, reduceIte, Nat.reduceEqDiff, Nat.reduceAdd, f22, f23, str]; done) | (simp [mkAct, upd, f22, f23, str, *]; done)
            · intro u wx hI hR
              obtain ⟨r0, r1, r2, r3, r4, r5, r6, r7, r8, r9, r10, r11, r12, r13, r14, r15, r16, r17, r18, r19, r20, r21, r22, r23, r24, -⟩ := hR
              replace r0 : u 0 = (.agg a.cells.toArray) := r0
              replace r1 : u 1 = (.agg (bv DA).toArray) := r1
              replace r2 : u 2 = (.agg b.cells.toArray) := r2
              replace r3 : u 3 = (.agg (bv DB).toArray) := r3
              replace r4 : u 4 = (.bool true) := r4
              replace r5 : u 5 = (.agg a.cells.toArray) := r5
              replace r6 : u 6 = (.agg (bv DA).toArray) := r6
              replace r7 : u 7 = (.agg b.cells.toArray) := r7
              replace r8 : u 8 = (.agg (bv DB).toArray) := r8
              replace r9 : u 9 = (.bool true) := r9
              replace r10 : u 10 = (.bool true) := r10
              replace r11 : u 11 = (.bool true) := r11
              replace r12 : u 12 = (.bool true) := r12
              replace r13 : u 13 = (.bool false) := r13
              replace r14 : u 14 = (.bool false) := r14
              replace r15 : u 15 = (.agg a.cells.toArray) := r15
              replace r16 : u 16 = (.agg (bv DA).toArray) := r16
              replace r17 : u 17 = (.agg b.cells.toArray) := r17
              replace r18 : u 18 = (.agg (bv DB).toArray) := r18
              replace r19 : u 19 = (.bool true) := r19
              replace r20 : u 20 = (.bool true) := r20
              replace r21 : u 21 = (.bool true) := r21
              replace r22 : u 22 = (.bool true) := r22
              replace r23 : u 23 = (.bool true) := r23
              replace r24 : u 24 = (.bool true) := r24
              simp only [mkAct, List.foldl_cons, List.foldl_nil, List.setIfInBounds_toArray, List.set_cons_succ, List.set_cons_zero]
              try simp only [str, r0, r1, r2, r3, r4, r5, r6, r7, r8, r9, r10, r11, r12, r13, r14, r15, r16, r17, r18, r19, r20, r21, r22, r23, r24]
              go_wp2
              go_ret
              exact ⟨rfl, s0.out.trans hI⟩
end Go.Proofs.Ythgpmgodpedjdaa
