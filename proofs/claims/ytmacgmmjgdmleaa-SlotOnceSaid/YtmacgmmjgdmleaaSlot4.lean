/-
  Slots: when two are the same by the document, and its slot of a slot; the chapter's example; which batch a digest is known by, by the program; which slots are looked at; votes, certs, slots that came in.
-/
import Derived.Test.YtmacgmmjgdmleaaSlot3
import Derived.Test.YtmacgmmjgdmleaaBatH
import Derived.Great.BuildSlice
import Derived.Test.YtmacgmmjgdmleaaSlot1
namespace Go.Proofs.Ytmacgmmjgdmleaa
open Go Go.RowKit
set_option linter.unusedSimpArgs false
set_option linter.unusedVariables false

set_option maxRecDepth 100000
set_option maxRecDepth 100000 in
set_option maxHeartbeats 1600000 in
/-- One held batch against another, each alone in its list. -/
theorem rheldSame_any (g1 g2 : Nat) (a b : BatV) (c d : CertV) (w : World) (h1 : w.rangeAt g1 0 (heldCells a c)) (h2 : w.rangeAt g2 0 (heldCells b d)) (ha : a.at w) (hb : b.at w) (hc : c.at w) (hd : d.at w) :
    Calls Try.prog 91 #[.slice (some ⟨g1, 0, none⟩) 1 1, .slice (some ⟨g2, 0, none⟩) 1 1] w fun e w' => e = .returned (.bool (batSame a b && CertV.same c d)) ∧ Same w w' := by
  have k1 := Lib.hid (range_part (o := 0) (n := 0) (pre := []) (post := c.cells) (mid := a.cells) h1 rfl)
  have k2 := Lib.hid (range_part (o := 0) (n := 0) (pre := []) (post := d.cells) (mid := b.cells) h2 rfl)
  have k3 := Lib.hid (range_part (o := 0) (n := 2) (pre := a.cells) (post := []) (mid := c.cells) (by rw [List.append_nil]; exact h1) rfl)
  have k4 := Lib.hid (range_part (o := 0) (n := 2) (pre := b.cells) (post := []) (mid := d.cells) (by rw [List.append_nil]; exact h2) rfl)
  have infA := Lib.hid (bat_infoL a)
  have infB := Lib.hid (bat_infoL b)
  have infC := Lib.hid (cert_infoL hc.1)
  have infD := Lib.hid (cert_infoL hd.1)
  have hS := Lib.hid (fun w h1 h2 => rbsame_any a b w h1 h2)
  have hK := Lib.hid (fun w h1 h2 => rcertSame_any c d w h1 h2)
  obtain ⟨S, hSe⟩ : ∃ S, S = batSame a b := ⟨_, rfl⟩
  obtain ⟨K, hKe⟩ : ∃ K, K = CertV.same c d := ⟨_, rfl⟩
  rw [← hSe] at hS ⊢
  rw [← hKe] at hK ⊢
  clear hSe hKe h1 h2
  replace ha := Lib.hid ha
  replace hb := Lib.hid hb
  replace hc := Lib.hid hc
  replace hd := Lib.hid hd
  obtain ⟨R, hR⟩ : ∃ R, R = (S && K) := ⟨_, rfl⟩
  rw [← hR]
  replace hR := Lib.hid hR
  go_enter Try.func91, Try.ntmps91
  go_wp2
  go_loopw [5] (fun i wr => (i = .int .i64 0 ∨ i = .int .i64 1 ∧ R = true) ∧ Same w wr) (fun i _ => 1 - (intOf i).toNat)
  case atStart => exact ⟨.inl rfl, Same.refl⟩
  case round =>
    obtain ⟨hi, hs⟩ := hrel
    rcases hi with rfl | ⟨rfl, hRt⟩
    · replace hs := Lib.hid hs
      go_upto_region 6 with fail
      go_cut [42] (fun v wx => v = .bool (!R) ∧ Same wr wx)
      case first =>
        cases S
        · have hRe := hR.out
          simp only [Bool.false_and, Bool.true_and] at hRe
          subst hRe
          refine wp_region_facts (by kernel_rfl) [(17, 0), (18, 1), (19, 2), (20, 3), (21, 4), (22, 5), (23, 6), (24, 7), (25, 8), (26, 9), (27, 10), (28, 11), (29, 12), (30, 13), (31, 14), (32, 15), (33, 16), (34, 17), (35, 18), (36, 19), (37, 20), (38, 21), (39, 22), (40, 23), (41, 24), (42, 25)] Same (Same _) [isV (.slice (some ⟨g1, 0, none⟩) 1 1), isV (.int .i64 0), isV (.pointer (some ⟨g1, 0, none⟩)), isV (.pointer (some ⟨g1, 0, none⟩)), isV (.agg a.cells.toArray), isV (.slice (some ⟨g2, 0, none⟩) 1 1), isV (.int .i64 0), isV (.pointer (some ⟨g2, 0, none⟩)), isV (.pointer (some ⟨g2, 0, none⟩)), isV (.agg b.cells.toArray), isV (.bool false), isV (.bool true), isV (.bool true), isV undef, isV undef, isV undef, isV undef, isV undef, isV undef, isV undef, isV undef, isV undef, isV undef, isV undef, isV undef, isV (.bool true)] Same.refl.drew (fun _ _ h k => h.trans k) (by simp [isV_stable, isB_stable, isAny_stable]) (by decide) (by decide) ?_ ?_
          · refine ⟨?_, ?_, ?_, ?_, ?_, ?_, ?_, ?_, ?_, ?_, ?_, ?_, ?_, ?_, ?_, ?_, ?_, ?_, ?_, ?_, ?_, ?_, ?_, ?_, ?_, ?_, trivial⟩
            all_goals (intro u wx hI hp; simp only [mkAct, List.foldl_cons, List.foldl_nil, List.setIfInBounds_toArray, List.set_cons_succ, List.set_cons_zero])
            · -- operation 0
              go_wp2
              refine stq_v rfl Same.refl ?_
              first | (simp only [mkAct, List.foldl_cons, List.foldl_nil, List.setIfInBounds_toArray, List.set_cons_succ, List.set_cons_zero, upd, reduceIte, Nat.reduceEqDiff, Nat.reduceAdd, str]; done) | (simp [mkAct, upd, str, *]; done)
            · -- operation 1
              go_wp2
              refine stq_v rfl Same.refl ?_
              first | (simp only [mkAct, List.foldl_cons, List.foldl_nil, List.setIfInBounds_toArray, List.set_cons_succ, List.set_cons_zero, upd, reduceIte, Nat.reduceEqDiff, Nat.reduceAdd, str]; done) | (simp [mkAct, upd, str, *]; done)
            · -- operation 2
              obtain ⟨f0, f1, -⟩ := hp
              replace f0 : u 0 = (.slice (some ⟨g1, 0, none⟩) 1 1) := f0
              replace f1 : u 1 = (.int .i64 0) := f1
              try simp only [f0, f1, str]
              go_wp2
              refine stq_v rfl Same.refl ?_
              first | (simp only [mkAct, List.foldl_cons, List.foldl_nil, List.setIfInBounds_toArray, List.set_cons_succ, List.set_cons_zero, upd, reduceIte, Nat.reduceEqDiff, Nat.reduceAdd, f0, f1, str]; done) | (simp [mkAct, upd, f0, f1, str, *]; done)
            · -- operation 3
              obtain ⟨f2, -⟩ := hp
              replace f2 : u 2 = (.pointer (some ⟨g1, 0, none⟩)) := f2
              try simp only [f2, str]
              go_wp2
              refine stq_v rfl Same.refl ?_
              first | (simp only [mkAct, List.foldl_cons, List.foldl_nil, List.setIfInBounds_toArray, List.set_cons_succ, List.set_cons_zero, upd, reduceIte, Nat.reduceEqDiff, Nat.reduceAdd, f2, str]; done) | (simp [mkAct, upd, f2, str, *]; done)
            · -- operation 4
              obtain ⟨f3, -⟩ := hp
              replace f3 : u 3 = (.pointer (some ⟨g1, 0, none⟩)) := f3
              try simp only [f3, str]
              go_wp2_with (refine load_mid rfl _ _ rfl g1 0 rfl a.cells _ ((hs.out.trans hI).range k1.out) Try.underlying26 rfl infA.out ?_)
              refine stq_v rfl Same.refl ?_
              first | (simp only [mkAct, List.foldl_cons, List.foldl_nil, List.setIfInBounds_toArray, List.set_cons_succ, List.set_cons_zero, upd, reduceIte, Nat.reduceEqDiff, Nat.reduceAdd, f3, str]; done) | (simp [mkAct, upd, f3, str, *]; done)
            · -- operation 5
              go_wp2
              refine stq_v rfl Same.refl ?_
              first | (simp only [mkAct, List.foldl_cons, List.foldl_nil, List.setIfInBounds_toArray, List.set_cons_succ, List.set_cons_zero, upd, reduceIte, Nat.reduceEqDiff, Nat.reduceAdd, str]; done) | (simp [mkAct, upd, str, *]; done)
            · -- operation 6
              go_wp2
              refine stq_v rfl Same.refl ?_
              first | (simp only [mkAct, List.foldl_cons, List.foldl_nil, List.setIfInBounds_toArray, List.set_cons_succ, List.set_cons_zero, upd, reduceIte, Nat.reduceEqDiff, Nat.reduceAdd, str]; done) | (simp [mkAct, upd, str, *]; done)
            · -- operation 7
              obtain ⟨f5, f6, -⟩ := hp
              replace f5 : u 5 = (.slice (some ⟨g2, 0, none⟩) 1 1) := f5
              replace f6 : u 6 = (.int .i64 0) := f6
              try simp only [f5, f6, str]
              go_wp2
              refine stq_v rfl Same.refl ?_
              first | (simp only [mkAct, List.foldl_cons, List.foldl_nil, List.setIfInBounds_toArray, List.set_cons_succ, List.set_cons_zero, upd, reduceIte, Nat.reduceEqDiff, Nat.reduceAdd, f5, f6, str]; done) | (simp [mkAct, upd, f5, f6, str, *]; done)
            · -- operation 8
              obtain ⟨f7, -⟩ := hp
              replace f7 : u 7 = (.pointer (some ⟨g2, 0, none⟩)) := f7
              try simp only [f7, str]
              go_wp2
              refine stq_v rfl Same.refl ?_
              first | (simp only [mkAct, List.foldl_cons, List.foldl_nil, List.setIfInBounds_toArray, List.set_cons_succ, List.set_cons_zero, upd, reduceIte, Nat.reduceEqDiff, Nat.reduceAdd, f7, str]; done) | (simp [mkAct, upd, f7, str, *]; done)
            · -- operation 9
              obtain ⟨f8, -⟩ := hp
              replace f8 : u 8 = (.pointer (some ⟨g2, 0, none⟩)) := f8
              try simp only [f8, str]
              go_wp2_with (refine load_mid rfl _ _ rfl g2 0 rfl b.cells _ ((hs.out.trans hI).range k2.out) Try.underlying26 rfl infB.out ?_)
              refine stq_v rfl Same.refl ?_
              first | (simp only [mkAct, List.foldl_cons, List.foldl_nil, List.setIfInBounds_toArray, List.set_cons_succ, List.set_cons_zero, upd, reduceIte, Nat.reduceEqDiff, Nat.reduceAdd, f8, str]; done) | (simp [mkAct, upd, f8, str, *]; done)
            · -- operation 10
              obtain ⟨f4, f9, -⟩ := hp
              replace f4 : u 4 = (.agg a.cells.toArray) := f4
              replace f9 : u 9 = (.agg b.cells.toArray) := f9
              try simp only [f4, f9, str]
              go_wp2_with fail
              refine (hS.out _ (BatV.same ha.out (hs.out.trans hI)) (BatV.same hb.out (hs.out.trans hI))).mono ?_
              rintro e w1 ⟨rfl, hs'⟩
              go_wp2
              refine stq_v rfl hs' ?_
              first | (simp only [mkAct, List.foldl_cons, List.foldl_nil, List.setIfInBounds_toArray, List.set_cons_succ, List.set_cons_zero, upd, reduceIte, Nat.reduceEqDiff, Nat.reduceAdd, f4, f9, str]; done) | (simp [mkAct, upd, f4, f9, str, *]; done)
            · -- operation 11
              obtain ⟨f10, -⟩ := hp
              replace f10 : u 10 = (.bool false) := f10
              try simp only [f10, str]
              go_wp2
              refine stq_v rfl Same.refl ?_
              first | (simp only [mkAct, List.foldl_cons, List.foldl_nil, List.setIfInBounds_toArray, List.set_cons_succ, List.set_cons_zero, upd, reduceIte, Nat.reduceEqDiff, Nat.reduceAdd, f10, str]; done) | (simp [mkAct, upd, f10, str, *]; done)
            · -- operation 12
              obtain ⟨f11, -, -⟩ := hp
              replace f11 : u 11 = (.bool true) := f11
              try simp only [f11, str]
              go_wp2
              refine stq_v rfl Same.refl ?_
              first | (simp only [mkAct, List.foldl_cons, List.foldl_nil, List.setIfInBounds_toArray, List.set_cons_succ, List.set_cons_zero, upd, reduceIte, Nat.reduceEqDiff, Nat.reduceAdd, f11, str]; done) | (simp [mkAct, upd, f11, str, *]; done)
            · -- operation 13
              obtain ⟨f12, -⟩ := hp
              replace f12 : u 12 = (.bool true) := f12
              try simp only [f12, str]
              go_wp2
              refine stq_v rfl Same.refl ?_
              first | (simp only [mkAct, List.foldl_cons, List.foldl_nil, List.setIfInBounds_toArray, List.set_cons_succ, List.set_cons_zero, upd, reduceIte, Nat.reduceEqDiff, Nat.reduceAdd, f12, str]; done) | (simp [mkAct, upd, f12, str, *]; done)
            · -- operation 14
              obtain ⟨f12, -⟩ := hp
              replace f12 : u 12 = (.bool true) := f12
              try simp only [f12, str]
              go_wp2
              refine stq_v rfl Same.refl ?_
              first | (simp only [mkAct, List.foldl_cons, List.foldl_nil, List.setIfInBounds_toArray, List.set_cons_succ, List.set_cons_zero, upd, reduceIte, Nat.reduceEqDiff, Nat.reduceAdd, f12, str]; done) | (simp [mkAct, upd, f12, str, *]; done)
            · -- operation 15
              obtain ⟨f13, f14, f12, -⟩ := hp
              replace f13 : u 13 = undef := f13
              replace f14 : u 14 = undef := f14
              replace f12 : u 12 = (.bool true) := f12
              try simp only [f13, f14, f12, str]
              go_wp2
              refine stq_v rfl Same.refl ?_
              first | (simp only [mkAct, List.foldl_cons, List.foldl_nil, List.setIfInBounds_toArray, List.set_cons_succ, List.set_cons_zero, upd, reduceIte, Nat.reduceEqDiff, Nat.reduceAdd, f13, f14, f12, str]; done) | (simp [mkAct, upd, f13, f14, f12, str, *]; done)
            · -- operation 16
              obtain ⟨f15, f12, -⟩ := hp
              replace f15 : u 15 = undef := f15
              replace f12 : u 12 = (.bool true) := f12
              try simp only [f15, f12, str]
              go_wp2
              refine stq_v rfl Same.refl ?_
              first | (simp only [mkAct, List.foldl_cons, List.foldl_nil, List.setIfInBounds_toArray, List.set_cons_succ, List.set_cons_zero, upd, reduceIte, Nat.reduceEqDiff, Nat.reduceAdd, f15, f12, str]; done) | (simp [mkAct, upd, f15, f12, str, *]; done)
            · -- operation 17
              obtain ⟨f16, f12, -⟩ := hp
              replace f16 : u 16 = undef := f16
              replace f12 : u 12 = (.bool true) := f12
              try simp only [f16, f12, str]
              go_wp2
              refine stq_v rfl Same.refl ?_
              first | (simp only [mkAct, List.foldl_cons, List.foldl_nil, List.setIfInBounds_toArray, List.set_cons_succ, List.set_cons_zero, upd, reduceIte, Nat.reduceEqDiff, Nat.reduceAdd, f16, f12, str]; done) | (simp [mkAct, upd, f16, f12, str, *]; done)
            · -- operation 18
              obtain ⟨f12, -⟩ := hp
              replace f12 : u 12 = (.bool true) := f12
              try simp only [f12, str]
              go_wp2
              refine stq_v rfl Same.refl ?_
              first | (simp only [mkAct, List.foldl_cons, List.foldl_nil, List.setIfInBounds_toArray, List.set_cons_succ, List.set_cons_zero, upd, reduceIte, Nat.reduceEqDiff, Nat.reduceAdd, f12, str]; done) | (simp [mkAct, upd, f12, str, *]; done)
            · -- operation 19
              obtain ⟨f12, -⟩ := hp
              replace f12 : u 12 = (.bool true) := f12
              try simp only [f12, str]
              go_wp2
              refine stq_v rfl Same.refl ?_
              first | (simp only [mkAct, List.foldl_cons, List.foldl_nil, List.setIfInBounds_toArray, List.set_cons_succ, List.set_cons_zero, upd, reduceIte, Nat.reduceEqDiff, Nat.reduceAdd, f12, str]; done) | (simp [mkAct, upd, f12, str, *]; done)
            · -- operation 20
              obtain ⟨f18, f19, f12, -⟩ := hp
              replace f18 : u 18 = undef := f18
              replace f19 : u 19 = undef := f19
              replace f12 : u 12 = (.bool true) := f12
              try simp only [f18, f19, f12, str]
              go_wp2
              refine stq_v rfl Same.refl ?_
              first | (simp only [mkAct, List.foldl_cons, List.foldl_nil, List.setIfInBounds_toArray, List.set_cons_succ, List.set_cons_zero, upd, reduceIte, Nat.reduceEqDiff, Nat.reduceAdd, f18, f19, f12, str]; done) | (simp [mkAct, upd, f18, f19, f12, str, *]; done)
            · -- operation 21
              obtain ⟨f20, f12, -⟩ := hp
              replace f20 : u 20 = undef := f20
              replace f12 : u 12 = (.bool true) := f12
              try simp only [f20, f12, str]
              go_wp2
              refine stq_v rfl Same.refl ?_
              first | (simp only [mkAct, List.foldl_cons, List.foldl_nil, List.setIfInBounds_toArray, List.set_cons_succ, List.set_cons_zero, upd, reduceIte, Nat.reduceEqDiff, Nat.reduceAdd, f20, f12, str]; done) | (simp [mkAct, upd, f20, f12, str, *]; done)
            · -- operation 22
              obtain ⟨f21, f12, -⟩ := hp
              replace f21 : u 21 = undef := f21
              replace f12 : u 12 = (.bool true) := f12
              try simp only [f21, f12, str]
              go_wp2
              refine stq_v rfl Same.refl ?_
              first | (simp only [mkAct, List.foldl_cons, List.foldl_nil, List.setIfInBounds_toArray, List.set_cons_succ, List.set_cons_zero, upd, reduceIte, Nat.reduceEqDiff, Nat.reduceAdd, f21, f12, str]; done) | (simp [mkAct, upd, f21, f12, str, *]; done)
            · -- operation 23
              obtain ⟨f17, f22, -, f12, -⟩ := hp
              replace f17 : u 17 = undef := f17
              replace f22 : u 22 = undef := f22
              replace f12 : u 12 = (.bool true) := f12
              try simp only [f17, f22, f12, str]
              go_wp2
              refine stq_v rfl Same.refl ?_
              first | (simp only [mkAct, List.foldl_cons, List.foldl_nil, List.setIfInBounds_toArray, List.set_cons_succ, List.set_cons_zero, upd, reduceIte, Nat.reduceEqDiff, Nat.reduceAdd, f17, f22, f12, str]; done) | (simp [mkAct, upd, f17, f22, f12, str, *]; done)
            · -- operation 24
              obtain ⟨f23, f12, -⟩ := hp
              replace f23 : u 23 = undef := f23
              replace f12 : u 12 = (.bool true) := f12
              try simp only [f23, f12, str]
              go_wp2
              refine stq_v rfl Same.refl ?_
              first | (simp only [mkAct, List.foldl_cons, List.foldl_nil, List.setIfInBounds_toArray, List.set_cons_succ, List.set_cons_zero, upd, reduceIte, Nat.reduceEqDiff, Nat.reduceAdd, f23, f12, str]; done) | (simp [mkAct, upd, f23, f12, str, *]; done)
            · -- operation 25
              obtain ⟨f12, f24, -⟩ := hp
              replace f12 : u 12 = (.bool true) := f12
              replace f24 : u 24 = undef := f24
              try simp only [f12, f24, str]
              go_wp2
              refine stq_v rfl Same.refl ?_
              first | (simp only [mkAct, List.foldl_cons, List.foldl_nil, List.setIfInBounds_toArray, List.set_cons_succ, List.set_cons_zero, upd, reduceIte, Nat.reduceEqDiff, Nat.reduceAdd, f12, f24, str]; done) | (simp [mkAct, upd, f12, f24, str, *]; done)
          · intro u wx hI hR
            obtain ⟨r0, r1, r2, r3, r4, r5, r6, r7, r8, r9, r10, r11, r12, r13, r14, r15, r16, r17, r18, r19, r20, r21, r22, r23, r24, r25, -⟩ := hR
            replace r0 : u 0 = (.slice (some ⟨g1, 0, none⟩) 1 1) := r0
            replace r1 : u 1 = (.int .i64 0) := r1
            replace r2 : u 2 = (.pointer (some ⟨g1, 0, none⟩)) := r2
            replace r3 : u 3 = (.pointer (some ⟨g1, 0, none⟩)) := r3
            replace r4 : u 4 = (.agg a.cells.toArray) := r4
            replace r5 : u 5 = (.slice (some ⟨g2, 0, none⟩) 1 1) := r5
            replace r6 : u 6 = (.int .i64 0) := r6
            replace r7 : u 7 = (.pointer (some ⟨g2, 0, none⟩)) := r7
            replace r8 : u 8 = (.pointer (some ⟨g2, 0, none⟩)) := r8
            replace r9 : u 9 = (.agg b.cells.toArray) := r9
            replace r10 : u 10 = (.bool false) := r10
            replace r11 : u 11 = (.bool true) := r11
            replace r12 : u 12 = (.bool true) := r12
            replace r13 : u 13 = undef := r13
            replace r14 : u 14 = undef := r14
            replace r15 : u 15 = undef := r15
            replace r16 : u 16 = undef := r16
            replace r17 : u 17 = undef := r17
            replace r18 : u 18 = undef := r18
            replace r19 : u 19 = undef := r19
            replace r20 : u 20 = undef := r20
            replace r21 : u 21 = undef := r21
            replace r22 : u 22 = undef := r22
            replace r23 : u 23 = undef := r23
            replace r24 : u 24 = undef := r24
            replace r25 : u 25 = (.bool true) := r25
            simp only [mkAct, List.foldl_cons, List.foldl_nil, List.setIfInBounds_toArray, List.set_cons_succ, List.set_cons_zero]
            try simp only [str, r0, r1, r2, r3, r4, r5, r6, r7, r8, r9, r10, r11, r12, r13, r14, r15, r16, r17, r18, r19, r20, r21, r22, r23, r24, r25]
            go_wp2
            go_meet
            exact ⟨rfl, hI⟩
        · have hRe := hR.out
          simp only [Bool.false_and, Bool.true_and] at hRe
          subst hRe
          refine wp_region_facts (by kernel_rfl) [(17, 0), (18, 1), (19, 2), (20, 3), (21, 4), (22, 5), (23, 6), (24, 7), (25, 8), (26, 9), (27, 10), (28, 11), (29, 12), (30, 13), (31, 14), (32, 15), (33, 16), (34, 17), (35, 18), (36, 19), (37, 20), (38, 21), (39, 22), (40, 23), (41, 24), (42, 25)] Same (Same _) [isV (.slice (some ⟨g1, 0, none⟩) 1 1), isV (.int .i64 0), isV (.pointer (some ⟨g1, 0, none⟩)), isV (.pointer (some ⟨g1, 0, none⟩)), isV (.agg a.cells.toArray), isV (.slice (some ⟨g2, 0, none⟩) 1 1), isV (.int .i64 0), isV (.pointer (some ⟨g2, 0, none⟩)), isV (.pointer (some ⟨g2, 0, none⟩)), isV (.agg b.cells.toArray), isV (.bool true), isV (.bool false), isV (.bool false), isV (.slice (some ⟨g1, 0, none⟩) 1 1), isV (.int .i64 0), isV (.pointer (some ⟨g1, 0, none⟩)), isV (.pointer (some ⟨g1, 2, none⟩)), isV (.agg c.cells.toArray), isV (.slice (some ⟨g2, 0, none⟩) 1 1), isV (.int .i64 0), isV (.pointer (some ⟨g2, 0, none⟩)), isV (.pointer (some ⟨g2, 2, none⟩)), isV (.agg d.cells.toArray), isV (.bool R), isV (.bool (!R)), isV (.bool (!R))] Same.refl.drew (fun _ _ h k => h.trans k) (by simp [isV_stable, isB_stable, isAny_stable]) (by decide) (by decide) ?_ ?_
          · refine ⟨?_, ?_, ?_, ?_, ?_, ?_, ?_, ?_, ?_, ?_, ?_, ?_, ?_, ?_, ?_, ?_, ?_, ?_, ?_, ?_, ?_, ?_, ?_, ?_, ?_, ?_, trivial⟩
            all_goals (intro u wx hI hp; simp only [mkAct, List.foldl_cons, List.foldl_nil, List.setIfInBounds_toArray, List.set_cons_succ, List.set_cons_zero])
            · -- operation 0
              go_wp2
              refine stq_v rfl Same.refl ?_
              first | (simp only [mkAct, List.foldl_cons, List.foldl_nil, List.setIfInBounds_toArray, List.set_cons_succ, List.set_cons_zero, upd, reduceIte, Nat.reduceEqDiff, Nat.reduceAdd, str]; done) | (simp [mkAct, upd, str, *]; done)
            · -- operation 1
              go_wp2
              refine stq_v rfl Same.refl ?_
              first | (simp only [mkAct, List.foldl_cons, List.foldl_nil, List.setIfInBounds_toArray, List.set_cons_succ, List.set_cons_zero, upd, reduceIte, Nat.reduceEqDiff, Nat.reduceAdd, str]; done) | (simp [mkAct, upd, str, *]; done)
            · -- operation 2
              obtain ⟨f0, f1, -⟩ := hp
              replace f0 : u 0 = (.slice (some ⟨g1, 0, none⟩) 1 1) := f0
              replace f1 : u 1 = (.int .i64 0) := f1
              try simp only [f0, f1, str]
              go_wp2
              refine stq_v rfl Same.refl ?_
              first | (simp only [mkAct, List.foldl_cons, List.foldl_nil, List.setIfInBounds_toArray, List.set_cons_succ, List.set_cons_zero, upd, reduceIte, Nat.reduceEqDiff, Nat.reduceAdd, f0, f1, str]; done) | (simp [mkAct, upd, f0, f1, str, *]; done)
            · -- operation 3
              obtain ⟨f2, -⟩ := hp
              replace f2 : u 2 = (.pointer (some ⟨g1, 0, none⟩)) := f2
              try simp only [f2, str]
              go_wp2
              refine stq_v rfl Same.refl ?_
              first | (simp only [mkAct, List.foldl_cons, List.foldl_nil, List.setIfInBounds_toArray, List.set_cons_succ, List.set_cons_zero, upd, reduceIte, Nat.reduceEqDiff, Nat.reduceAdd, f2, str]; done) | (simp [mkAct, upd, f2, str, *]; done)
            · -- operation 4
              obtain ⟨f3, -⟩ := hp
              replace f3 : u 3 = (.pointer (some ⟨g1, 0, none⟩)) := f3
              try simp only [f3, str]
              go_wp2_with (refine load_mid rfl _ _ rfl g1 0 rfl a.cells _ ((hs.out.trans hI).range k1.out) Try.underlying26 rfl infA.out ?_)
              refine stq_v rfl Same.refl ?_
              first | (simp only [mkAct, List.foldl_cons, List.foldl_nil, List.setIfInBounds_toArray, List.set_cons_succ, List.set_cons_zero, upd, reduceIte, Nat.reduceEqDiff, Nat.reduceAdd, f3, str]; done) | (simp [mkAct, upd, f3, str, *]; done)
            · -- operation 5
              go_wp2
              refine stq_v rfl Same.refl ?_
              first | (simp only [mkAct, List.foldl_cons, List.foldl_nil, List.setIfInBounds_toArray, List.set_cons_succ, List.set_cons_zero, upd, reduceIte, Nat.reduceEqDiff, Nat.reduceAdd, str]; done) | (simp [mkAct, upd, str, *]; done)
            · -- operation 6
              go_wp2
              refine stq_v rfl Same.refl ?_
              first | (simp only [mkAct, List.foldl_cons, List.foldl_nil, List.setIfInBounds_toArray, List.set_cons_succ, List.set_cons_zero, upd, reduceIte, Nat.reduceEqDiff, Nat.reduceAdd, str]; done) | (simp [mkAct, upd, str, *]; done)
            · -- operation 7
              obtain ⟨f5, f6, -⟩ := hp
              replace f5 : u 5 = (.slice (some ⟨g2, 0, none⟩) 1 1) := f5
              replace f6 : u 6 = (.int .i64 0) := f6
              try simp only [f5, f6, str]
              go_wp2
              refine stq_v rfl Same.refl ?_
              first | (simp only [mkAct, List.foldl_cons, List.foldl_nil, List.setIfInBounds_toArray, List.set_cons_succ, List.set_cons_zero, upd, reduceIte, Nat.reduceEqDiff, Nat.reduceAdd, f5, f6, str]; done) | (simp [mkAct, upd, f5, f6, str, *]; done)
            · -- operation 8
              obtain ⟨f7, -⟩ := hp
              replace f7 : u 7 = (.pointer (some ⟨g2, 0, none⟩)) := f7
              try simp only [f7, str]
              go_wp2
              refine stq_v rfl Same.refl ?_
              first | (simp only [mkAct, List.foldl_cons, List.foldl_nil, List.setIfInBounds_toArray, List.set_cons_succ, List.set_cons_zero, upd, reduceIte, Nat.reduceEqDiff, Nat.reduceAdd, f7, str]; done) | (simp [mkAct, upd, f7, str, *]; done)
            · -- operation 9
              obtain ⟨f8, -⟩ := hp
              replace f8 : u 8 = (.pointer (some ⟨g2, 0, none⟩)) := f8
              try simp only [f8, str]
              go_wp2_with (refine load_mid rfl _ _ rfl g2 0 rfl b.cells _ ((hs.out.trans hI).range k2.out) Try.underlying26 rfl infB.out ?_)
              refine stq_v rfl Same.refl ?_
              first | (simp only [mkAct, List.foldl_cons, List.foldl_nil, List.setIfInBounds_toArray, List.set_cons_succ, List.set_cons_zero, upd, reduceIte, Nat.reduceEqDiff, Nat.reduceAdd, f8, str]; done) | (simp [mkAct, upd, f8, str, *]; done)
            · -- operation 10
              obtain ⟨f4, f9, -⟩ := hp
              replace f4 : u 4 = (.agg a.cells.toArray) := f4
              replace f9 : u 9 = (.agg b.cells.toArray) := f9
              try simp only [f4, f9, str]
              go_wp2_with fail
              refine (hS.out _ (BatV.same ha.out (hs.out.trans hI)) (BatV.same hb.out (hs.out.trans hI))).mono ?_
              rintro e w1 ⟨rfl, hs'⟩
              go_wp2
              refine stq_v rfl hs' ?_
              first | (simp only [mkAct, List.foldl_cons, List.foldl_nil, List.setIfInBounds_toArray, List.set_cons_succ, List.set_cons_zero, upd, reduceIte, Nat.reduceEqDiff, Nat.reduceAdd, f4, f9, str]; done) | (simp [mkAct, upd, f4, f9, str, *]; done)
            · -- operation 11
              obtain ⟨f10, -⟩ := hp
              replace f10 : u 10 = (.bool true) := f10
              try simp only [f10, str]
              go_wp2
              refine stq_v rfl Same.refl ?_
              first | (simp only [mkAct, List.foldl_cons, List.foldl_nil, List.setIfInBounds_toArray, List.set_cons_succ, List.set_cons_zero, upd, reduceIte, Nat.reduceEqDiff, Nat.reduceAdd, f10, str]; done) | (simp [mkAct, upd, f10, str, *]; done)
            · -- operation 12
              obtain ⟨f11, -, -⟩ := hp
              replace f11 : u 11 = (.bool false) := f11
              try simp only [f11, str]
              go_wp2
              refine stq_v rfl Same.refl ?_
              first | (simp only [mkAct, List.foldl_cons, List.foldl_nil, List.setIfInBounds_toArray, List.set_cons_succ, List.set_cons_zero, upd, reduceIte, Nat.reduceEqDiff, Nat.reduceAdd, f11, str]; done) | (simp [mkAct, upd, f11, str, *]; done)
            · -- operation 13
              obtain ⟨f12, -⟩ := hp
              replace f12 : u 12 = (.bool false) := f12
              try simp only [f12, str]
              go_wp2
              refine stq_v rfl Same.refl ?_
              first | (simp only [mkAct, List.foldl_cons, List.foldl_nil, List.setIfInBounds_toArray, List.set_cons_succ, List.set_cons_zero, upd, reduceIte, Nat.reduceEqDiff, Nat.reduceAdd, f12, str]; done) | (simp [mkAct, upd, f12, str, *]; done)
            · -- operation 14
              obtain ⟨f12, -⟩ := hp
              replace f12 : u 12 = (.bool false) := f12
              try simp only [f12, str]
              go_wp2
              refine stq_v rfl Same.refl ?_
              first | (simp only [mkAct, List.foldl_cons, List.foldl_nil, List.setIfInBounds_toArray, List.set_cons_succ, List.set_cons_zero, upd, reduceIte, Nat.reduceEqDiff, Nat.reduceAdd, f12, str]; done) | (simp [mkAct, upd, f12, str, *]; done)
            · -- operation 15
              obtain ⟨f13, f14, f12, -⟩ := hp
              replace f13 : u 13 = (.slice (some ⟨g1, 0, none⟩) 1 1) := f13
              replace f14 : u 14 = (.int .i64 0) := f14
              replace f12 : u 12 = (.bool false) := f12
              try simp only [f13, f14, f12, str]
              go_wp2
              refine stq_v rfl Same.refl ?_
              first | (simp only [mkAct, List.foldl_cons, List.foldl_nil, List.setIfInBounds_toArray, List.set_cons_succ, List.set_cons_zero, upd, reduceIte, Nat.reduceEqDiff, Nat.reduceAdd, f13, f14, f12, str]; done) | (simp [mkAct, upd, f13, f14, f12, str, *]; done)
            · -- operation 16
              obtain ⟨f15, f12, -⟩ := hp
              replace f15 : u 15 = (.pointer (some ⟨g1, 0, none⟩)) := f15
              replace f12 : u 12 = (.bool false) := f12
              try simp only [f15, f12, str]
              go_wp2
              refine stq_v rfl Same.refl ?_
              first | (simp only [mkAct, List.foldl_cons, List.foldl_nil, List.setIfInBounds_toArray, List.set_cons_succ, List.set_cons_zero, upd, reduceIte, Nat.reduceEqDiff, Nat.reduceAdd, f15, f12, str]; done) | (simp [mkAct, upd, f15, f12, str, *]; done)
            · -- operation 17
              obtain ⟨f16, f12, -⟩ := hp
              replace f16 : u 16 = (.pointer (some ⟨g1, 2, none⟩)) := f16
              replace f12 : u 12 = (.bool false) := f12
              try simp only [f16, f12, str]
              go_wp2_with (refine load_mid rfl _ _ rfl g1 2 rfl c.cells _ ((hs.out.trans hI).range k3.out) Try.underlying33 rfl infC.out ?_)
              refine stq_v rfl Same.refl ?_
              first | (simp only [mkAct, List.foldl_cons, List.foldl_nil, List.setIfInBounds_toArray, List.set_cons_succ, List.set_cons_zero, upd, reduceIte, Nat.reduceEqDiff, Nat.reduceAdd, f16, f12, str]; done) | (simp [mkAct, upd, f16, f12, str, *]; done)
            · -- operation 18
              obtain ⟨f12, -⟩ := hp
              replace f12 : u 12 = (.bool false) := f12
              try simp only [f12, str]
              go_wp2
              refine stq_v rfl Same.refl ?_
              first | (simp only [mkAct, List.foldl_cons, List.foldl_nil, List.setIfInBounds_toArray, List.set_cons_succ, List.set_cons_zero, upd, reduceIte, Nat.reduceEqDiff, Nat.reduceAdd, f12, str]; done) | (simp [mkAct, upd, f12, str, *]; done)
            · -- operation 19
              obtain ⟨f12, -⟩ := hp
              replace f12 : u 12 = (.bool false) := f12
              try simp only [f12, str]
              go_wp2
              refine stq_v rfl Same.refl ?_
              first | (simp only [mkAct, List.foldl_cons, List.foldl_nil, List.setIfInBounds_toArray, List.set_cons_succ, List.set_cons_zero, upd, reduceIte, Nat.reduceEqDiff, Nat.reduceAdd, f12, str]; done) | (simp [mkAct, upd, f12, str, *]; done)
            · -- operation 20
              obtain ⟨f18, f19, f12, -⟩ := hp
              replace f18 : u 18 = (.slice (some ⟨g2, 0, none⟩) 1 1) := f18
              replace f19 : u 19 = (.int .i64 0) := f19
              replace f12 : u 12 = (.bool false) := f12
              try simp only [f18, f19, f12, str]
              go_wp2
              refine stq_v rfl Same.refl ?_
              first | (simp only [mkAct, List.foldl_cons, List.foldl_nil, List.setIfInBounds_toArray, List.set_cons_succ, List.set_cons_zero, upd, reduceIte, Nat.reduceEqDiff, Nat.reduceAdd, f18, f19, f12, str]; done) | (simp [mkAct, upd, f18, f19, f12, str, *]; done)
            · -- operation 21
              obtain ⟨f20, f12, -⟩ := hp
              replace f20 : u 20 = (.pointer (some ⟨g2, 0, none⟩)) := f20
              replace f12 : u 12 = (.bool false) := f12
              try simp only [f20, f12, str]
              go_wp2
              refine stq_v rfl Same.refl ?_
              first | (simp only [mkAct, List.foldl_cons, List.foldl_nil, List.setIfInBounds_toArray, List.set_cons_succ, List.set_cons_zero, upd, reduceIte, Nat.reduceEqDiff, Nat.reduceAdd, f20, f12, str]; done) | (simp [mkAct, upd, f20, f12, str, *]; done)
            · -- operation 22
              obtain ⟨f21, f12, -⟩ := hp
              replace f21 : u 21 = (.pointer (some ⟨g2, 2, none⟩)) := f21
              replace f12 : u 12 = (.bool false) := f12
              try simp only [f21, f12, str]
              go_wp2_with (refine load_mid rfl _ _ rfl g2 2 rfl d.cells _ ((hs.out.trans hI).range k4.out) Try.underlying33 rfl infD.out ?_)
              refine stq_v rfl Same.refl ?_
              first | (simp only [mkAct, List.foldl_cons, List.foldl_nil, List.setIfInBounds_toArray, List.set_cons_succ, List.set_cons_zero, upd, reduceIte, Nat.reduceEqDiff, Nat.reduceAdd, f21, f12, str]; done) | (simp [mkAct, upd, f21, f12, str, *]; done)
            · -- operation 23
              obtain ⟨f17, f22, -, f12, -⟩ := hp
              replace f17 : u 17 = (.agg c.cells.toArray) := f17
              replace f22 : u 22 = (.agg d.cells.toArray) := f22
              replace f12 : u 12 = (.bool false) := f12
              try simp only [f17, f22, f12, str]
              go_wp2_with fail
              refine (hK.out _ (CertV.same' hc.out (hs.out.trans hI)) (CertV.same' hd.out (hs.out.trans hI))).mono ?_
              rintro e w1 ⟨rfl, hs'⟩
              go_wp2
              refine stq_v rfl hs' ?_
              first | (simp only [mkAct, List.foldl_cons, List.foldl_nil, List.setIfInBounds_toArray, List.set_cons_succ, List.set_cons_zero, upd, reduceIte, Nat.reduceEqDiff, Nat.reduceAdd, f17, f22, f12, str]; done) | (simp [mkAct, upd, f17, f22, f12, str, *]; done)
            · -- operation 24
              obtain ⟨f23, f12, -⟩ := hp
              replace f23 : u 23 = (.bool R) := f23
              replace f12 : u 12 = (.bool false) := f12
              try simp only [f23, f12, str]
              go_wp2
              refine stq_v rfl Same.refl ?_
              first | (simp only [mkAct, List.foldl_cons, List.foldl_nil, List.setIfInBounds_toArray, List.set_cons_succ, List.set_cons_zero, upd, reduceIte, Nat.reduceEqDiff, Nat.reduceAdd, f23, f12, str]; done) | (simp [mkAct, upd, f23, f12, str, *]; done)
            · -- operation 25
              obtain ⟨f12, f24, -⟩ := hp
              replace f12 : u 12 = (.bool false) := f12
              replace f24 : u 24 = (.bool (!R)) := f24
              try simp only [f12, f24, str]
              go_wp2
              refine stq_v rfl Same.refl ?_
              first | (simp only [mkAct, List.foldl_cons, List.foldl_nil, List.setIfInBounds_toArray, List.set_cons_succ, List.set_cons_zero, upd, reduceIte, Nat.reduceEqDiff, Nat.reduceAdd, f12, f24, str]; done) | (simp [mkAct, upd, f12, f24, str, *]; done)
          · intro u wx hI hR
            obtain ⟨r0, r1, r2, r3, r4, r5, r6, r7, r8, r9, r10, r11, r12, r13, r14, r15, r16, r17, r18, r19, r20, r21, r22, r23, r24, r25, -⟩ := hR
            replace r0 : u 0 = (.slice (some ⟨g1, 0, none⟩) 1 1) := r0
            replace r1 : u 1 = (.int .i64 0) := r1
            replace r2 : u 2 = (.pointer (some ⟨g1, 0, none⟩)) := r2
            replace r3 : u 3 = (.pointer (some ⟨g1, 0, none⟩)) := r3
            replace r4 : u 4 = (.agg a.cells.toArray) := r4
            replace r5 : u 5 = (.slice (some ⟨g2, 0, none⟩) 1 1) := r5
            replace r6 : u 6 = (.int .i64 0) := r6
            replace r7 : u 7 = (.pointer (some ⟨g2, 0, none⟩)) := r7
            replace r8 : u 8 = (.pointer (some ⟨g2, 0, none⟩)) := r8
            replace r9 : u 9 = (.agg b.cells.toArray) := r9
            replace r10 : u 10 = (.bool true) := r10
            replace r11 : u 11 = (.bool false) := r11
            replace r12 : u 12 = (.bool false) := r12
            replace r13 : u 13 = (.slice (some ⟨g1, 0, none⟩) 1 1) := r13
            replace r14 : u 14 = (.int .i64 0) := r14
            replace r15 : u 15 = (.pointer (some ⟨g1, 0, none⟩)) := r15
            replace r16 : u 16 = (.pointer (some ⟨g1, 2, none⟩)) := r16
            replace r17 : u 17 = (.agg c.cells.toArray) := r17
            replace r18 : u 18 = (.slice (some ⟨g2, 0, none⟩) 1 1) := r18
            replace r19 : u 19 = (.int .i64 0) := r19
            replace r20 : u 20 = (.pointer (some ⟨g2, 0, none⟩)) := r20
            replace r21 : u 21 = (.pointer (some ⟨g2, 2, none⟩)) := r21
            replace r22 : u 22 = (.agg d.cells.toArray) := r22
            replace r23 : u 23 = (.bool R) := r23
            replace r24 : u 24 = (.bool (!R)) := r24
            replace r25 : u 25 = (.bool (!R)) := r25
            simp only [mkAct, List.foldl_cons, List.foldl_nil, List.setIfInBounds_toArray, List.set_cons_succ, List.set_cons_zero]
            try simp only [str, r0, r1, r2, r3, r4, r5, r6, r7, r8, r9, r10, r11, r12, r13, r14, r15, r16, r17, r18, r19, r20, r21, r22, r23, r24, r25]
            go_wp2
            go_meet
            exact ⟨rfl, hI⟩
      case rest =>
        obtain ⟨rfl, hs3⟩ := hcut
        clear hR
        cases R
        · go_wp2
          go_ret
          exact ⟨rfl, hs.out.trans hs3⟩
        · go_wp2
          go_roundw
          case rel => exact ⟨.inr ⟨by go_num, by trivial⟩, hs.out.trans hs3⟩
          case measure => simp [intOf]
    · subst hRt
      clear hR
      replace hs := Lib.hid hs
      go_wp2
      go_ret
      exact ⟨rfl, hs.out⟩
set_option maxRecDepth 100000 in
set_option maxHeartbeats 1600000 in
/-- One entry against another. -/
theorem rentSame_any (n m : Int) (a b : BatV) (c d : CertV) (w : World) (ha : a.at w) (hb : b.at w) (hc : c.at w) (hd : d.at w) :
    Calls Try.prog 21 #[.agg (entCells n a c).toArray, .agg (entCells m b d).toArray] w fun e w' => e = .returned (.bool (decide (n = m) && (batSame a b && CertV.same c d))) ∧ Same w w' := by
  have hi1 : (Try.prog.info? 40).map (·.size) = some (entCells n a c).toArray.size := by rw [List.size_toArray]; exact ent_infoL hc.1
  have hi2 : (Try.prog.info? 40).map (·.size) = some (entCells m b d).toArray.size := by rw [List.size_toArray]; exact ent_infoL hd.1
  have infA := Lib.hid (bat_infoL a)
  have infB := Lib.hid (bat_infoL b)
  have infC := Lib.hid (cert_infoL hc.1)
  have infD := Lib.hid (cert_infoL hd.1)
  have hS := Lib.hid (fun w h1 h2 => rbsame_any a b w h1 h2)
  have hK := Lib.hid (fun w h1 h2 => rcertSame_any c d w h1 h2)
  obtain ⟨S, hSe⟩ : ∃ S, S = batSame a b := ⟨_, rfl⟩
  obtain ⟨K, hKe⟩ : ∃ K, K = CertV.same c d := ⟨_, rfl⟩
  obtain ⟨E, hE⟩ : ∃ E, E = decide (n = m) := ⟨_, rfl⟩
  have hE2 : (n == m) = E := by rw [hE, Bool.eq_iff_iff]; simp
  rw [← hSe] at hS ⊢
  rw [← hKe] at hK ⊢
  rw [← hE]
  clear hSe hKe hE
  replace ha := Lib.hid ha
  replace hb := Lib.hid hb
  replace hc := Lib.hid hc
  replace hd := Lib.hid hd
  replace hi1 := Lib.hid hi1
  replace hi2 := Lib.hid hi2
  replace hE2 := Lib.hid hE2
  go_enter Try.func21, Try.ntmps21
  go_upto_region 1 with (first | (refine box_row rfl _ _ rfl (entCells n a c).toArray rfl hi1.out ?_; intro w0 hbx hs0; have hbxl := blk_lt hbx; replace hbx := Lib.hid hbx; replace hs0 := Lib.hid hs0) | (refine box_row rfl _ _ rfl (entCells m b d).toArray rfl hi2.out ?_; intro w1 hby hs1; replace hby := Lib.hid hby; replace hs1 := Lib.hid hs1))
  have hbx1 := hs1.out.at hbx.out
  have r1 : w1.rangeAt w.heap.size 0 (entCells n a c) := part_range (pre := []) (post := []) (by rw [List.append_nil]; exact hbx1) rfl
  have r2 : w1.rangeAt w0.heap.size 0 (entCells m b d) := part_range (pre := []) (post := []) (by rw [List.append_nil]; exact hby.out) rfl
  have c1 : w1.cell? ⟨w.heap.size, 0, none⟩ = some (.int .i64 n) := r1 0 _ rfl
  have c2 : w1.cell? ⟨w0.heap.size, 0, none⟩ = some (.int .i64 m) := r2 0 _ rfl
  have k1 := Lib.hid (range_part (o := 0) (n := 1) (pre := [.int .i64 n]) (post := c.cells) (mid := a.cells) r1 rfl)
  have k2 := Lib.hid (range_part (o := 0) (n := 1) (pre := [.int .i64 m]) (post := d.cells) (mid := b.cells) r2 rfl)
  have k3 := Lib.hid (range_part (o := 0) (n := 3) (pre := [.int .i64 n] ++ a.cells) (post := []) (mid := c.cells) (by rw [List.append_nil, List.append_assoc]; exact r1) rfl)
  have k4 := Lib.hid (range_part (o := 0) (n := 3) (pre := [.int .i64 m] ++ b.cells) (post := []) (mid := d.cells) (by rw [List.append_nil, List.append_assoc]; exact r2) rfl)
  have hw1 := Lib.hid (hs0.out.trans hs1.out)
  have st := Lib.hid (Same.refl (w := w1))
  clear hbx hby hs0 hs1 hbx1 r1 r2
  cases E
  · have hEx := hE2.out
    go_wp2
    go_ret
    exact ⟨rfl, hw1.out⟩
  · have hEx := hE2.out
    go_wp2_with (first | (refine load_mid rfl _ _ rfl w.heap.size 1 rfl a.cells _ k1.out Try.underlying26 rfl infA.out ?_) | (refine load_mid rfl _ _ rfl w0.heap.size 1 rfl b.cells _ k2.out Try.underlying26 rfl infB.out ?_))
    refine (hS.out _ (BatV.same ha.out hw1.out) (BatV.same hb.out hw1.out)).mono ?_
    rintro e w2 ⟨rfl, hs⟩
    replace st := Lib.hid (st.out.trans hs)
    have hw2 := Lib.hid (hw1.out.trans hs)
    clear hs
    cases S
    · go_wp2
      go_ret
      exact ⟨rfl, hw2.out⟩
    · go_wp2_with (first | (refine load_mid rfl _ _ rfl w.heap.size 3 rfl c.cells _ (st.out.range k3.out) Try.underlying33 rfl infC.out ?_) | (refine load_mid rfl _ _ rfl w0.heap.size 3 rfl d.cells _ (st.out.range k4.out) Try.underlying33 rfl infD.out ?_))
      refine (hK.out _ (CertV.same' hc.out hw2.out) (CertV.same' hd.out hw2.out)).mono ?_
      rintro e w3 ⟨rfl, hs⟩
      have hw3 := Lib.hid (hw2.out.trans hs)
      clear hs
      go_wp2
      go_ret
      exact ⟨rfl, hw3.out⟩
set_option maxRecDepth 100000 in
set_option maxHeartbeats 400000 in
/-- The document's slot of a slot: the same cells. -/
theorem slotOf_any (s : SlotV) (w : World) (h : s.wf) :
    Calls Try.prog 20 #[.agg s.cells.toArray] w fun e w' => e = .returned (.agg s.cells.toArray) ∧ Same w w' := by
  have hinf := Lib.hid (slot_info h)
  have hinfR := Lib.hid (rslot_info h)
  have hone := Lib.hid (slot_one s)
  have hsz := Lib.hid (SlotV.len h)
  go_enter Try.func20, Try.ntmps20
  go_wp2_with (first | (refine box_row rfl _ _ rfl _ rfl hinf.out ?_; intro w0 hbx hs0; replace hbx := Lib.hid hbx; replace hs0 := Lib.hid hs0) | (refine alloc_new rfl 50 rfl zeroSlot.cells.toArray (by kernel_rfl) ?_; intro w1 hd hs1; have hdl := blk_lt hd; replace hd := Lib.hid hd; replace hs1 := Lib.hid hs1) | (refine load_row rfl _ _ rfl w.heap.size rfl _ _ _ _ (hs1.out.at hbx.out) Try.underlying42 rfl hinf.out ?_) | (refine store_row rfl _ _ _ rfl w0.heap.size s.cells.toArray rfl rfl _ _ hd.out hinfR.out (by rw [List.size_toArray, List.size_toArray, hsz.out, SlotV.len zeroSlot_wf]) hone.out ?_; intro w2 hb2 hk2; replace hb2 := Lib.hid hb2; replace hk2 := Lib.hid hk2))
  refine bodyPost_ret (v := .agg s.cells.toArray) (results_row (p := 2) (ty := 50) rfl _ _ w0.heap.size _ _ _ _ rfl hb2.out Try.underlying50 rfl hinfR.out) rfl ?_
  have := hs0.out.size
  exact ⟨rfl, (hs0.out.trans hs1.out).keep hk2.out (fun x hx hv => by omega)⟩
end Go.Proofs.Ytmacgmmjgdmleaa
namespace Go.Proofs.Ytmacgmmjgdmleaa
open Go Go.RowKit
set_option linter.unusedSimpArgs false
set_option linter.unusedVariables false
set_option maxRecDepth 100000

section
variable {P : Program} {ops : Array Oper} {rest : List Oper} {o : Oper} {a : Act} {Q : Exit → Act → World → Prop}
/-- '[]T{x}', x a whole value. -/
theorem build_slice1 {W : World} (hg : Region.wanted o (yielded ops a.tmps) = true) (ty e : TypeId) (x : Operand) (ho : o.op = .buildSlice ty 1 #[(0, x)]) (A : List Value) (hx : a.eval x = .agg A.toArray) (hu : P.underlying ty = some (.slice e)) (z : Value) (hi : (P.info? e).map (fun i => (i.zero, i.size)) = some (some z, A.length)) (hp : 0 < A.length) (hm : A.length ≤ 1000000)
    (h : ∀ w', w'.heap[W.heap.size]? = some (.cells A.toArray e (0, 0)) → Same W w' → wpList P ops Q rest (a.put o.dst (.slice (some ⟨W.heap.size, 0, none⟩) 1 1)) w') : wpList P ops Q (o :: rest) a W := by
  obtain ⟨ie, hie, hz⟩ : ∃ ie, P.info? e = some ie ∧ (ie.zero, ie.size) = (some z, A.length) := by
    cases hq : P.info? e with
    | none => rw [hq] at hi; cases hi
    | some ie => rw [hq] at hi; exact ⟨ie, rfl, by simpa using hi⟩
  obtain ⟨hz1, hz2⟩ := Prod.mk.inj hz
  have hf : Instr.fill (fun i => some (i * ie.size, ie.size)) ((Array.range (1 * ie.size)).map (z.cells[· % z.cells.size]!)) [(0, .agg A.toArray)] = some A.toArray := by
    have e1 := fill_step (place := fun i => some (i * ie.size, ie.size)) (i := 0) (v := .agg A.toArray) (A := A) (pre := []) (mid := ((Array.range (1 * ie.size)).map (z.cells[· % z.cells.size]!)).toList) (post := []) (rest := []) (by simp [hz2]) rfl (by simp [hz2])
    rw [List.nil_append, List.append_nil, List.nil_append, List.append_nil, Array.toArray_toList] at e1
    exact e1
  have hrun := run_buildSlice (P := P) W ty e 1 #[(0, .agg A.toArray)] A.toArray ie z hu hie hz1 (by rw [hz2]; omega) (by rw [hz2]; omega) hf
  refine wpL hg fun K hK => ?_
  have hpr : (#[(0, x)] : Array (Nat × Operand)).map (fun p => (p.1, a.eval p.2)) = #[(0, .agg A.toArray)] := by simp [hx]
  have hrun2 : (Instr.buildSlice ty 1 ((#[(0, x)] : Array (Nat × Operand)).map fun p => (p.1, a.eval p.2))).run P W = .ok (.slice (some ⟨W.heap.size, 0, none⟩) 1 1) (W.alloc (.cells A.toArray e)) := by rw [hpr]; exact hrun
  unfold Oper.wp execOp
  simp only [ho, Sem.run_bind, Sem.run_pure, Result.andThen_ok, hrun2]
  exact hK _ _ (h _ (heap_alloc_new _ _) (Same.alloc Same.refl _))
end
set_option maxRecDepth 100000 in
set_option maxHeartbeats 3200000 in
theorem rslotSame_no (a b : SlotV) (w : World) (ha : a.at w) (hb : b.at w) (hno : ¬ (a.view = b.view ∧ a.is = b.is ∧ a.holds = b.holds ∧ a.decided = b.decided)) :
    Calls Try.prog 19 #[.agg a.cells.toArray, .agg b.cells.toArray] w fun e w' => e = .returned (.bool false) ∧ Same w w' := by
  have hwa := Lib.hid ha.wf
  have hwb := Lib.hid hb.wf
  have hinfA := Lib.hid (rslot_info hwa.out)
  have hinfB := Lib.hid (rslot_info hwb.out)
  have dif : ∀ x y : Bool, x ≠ y → ∃ z, x = z ∧ y = !z := by intro x y; cases x <;> cases y <;> simp
  have hcase : (a.view != b.view) = true ∨ (a.view = b.view ∧ ∃ x, a.is = x ∧ b.is = !x) ∨ (a.view = b.view ∧ a.is = b.is ∧ ∃ x, a.holds = x ∧ b.holds = !x) ∨ (a.view = b.view ∧ a.is = b.is ∧ a.holds = b.holds ∧ ∃ x, a.decided = x ∧ b.decided = !x) := by
    by_cases e1 : a.view = b.view
    · by_cases e2 : a.is = b.is
      · by_cases e3 : a.holds = b.holds
        · by_cases e4 : a.decided = b.decided
          · exact absurd ⟨e1, e2, e3, e4⟩ hno
          · exact .inr (.inr (.inr ⟨e1, e2, e3, dif _ _ e4⟩))
        · exact .inr (.inr (.inl ⟨e1, e2, dif _ _ e3⟩))
      · exact .inr (.inl ⟨e1, dif _ _ e2⟩)
    · exact .inl (by simp [e1])
  clear hno ha hb dif
  have q1 : (b.view != b.view) = false := by simp
  have q2 : (b.is != b.is) = false := by simp
  have q3 : (b.holds != b.holds) = false := by simp
  rcases hcase with o1 | ⟨e1, x, x1, x2⟩ | ⟨e1, e2, x, x1, x2⟩ | ⟨e1, e2, e3, x, x1, x2⟩
  · clear q1 q2 q3
    go_enter Try.func19, Try.ntmps19
    go_upto_region 1 with (first | (refine box_row rfl _ _ rfl a.cells.toArray rfl hinfA.out ?_; intro w0 hbx hs0; have hbxl := blk_lt hbx; replace hbx := Lib.hid hbx; replace hs0 := Lib.hid hs0) | (refine box_row rfl _ _ rfl b.cells.toArray rfl hinfB.out ?_; intro w1 hby hs1; replace hby := Lib.hid hby; replace hs1 := Lib.hid hs1))
    have hbx1 := Lib.hid (hs1.out.at hbx.out)
    have hw1 := Lib.hid (hs0.out.trans hs1.out)
    have c0 := sl_view hbx1.out
    have c3 := sl_is hbx1.out
    have c43 := sl_holds hbx1.out hwa.out
    have c84 := sl_decided hbx1.out hwa.out
    have d0 := sl_view hby.out
    have d3 := sl_is hby.out
    have d43 := sl_holds hby.out hwb.out
    have d84 := sl_decided hby.out hwb.out
    clear hbx hs0 hs1
    go_wp2
    go_ret
    exact ⟨rfl, hw1.out⟩
  · replace e1 := Lib.hid e1
    replace x1 := Lib.hid x1
    replace x2 := Lib.hid x2
    go_enter Try.func19, Try.ntmps19
    go_upto_region 1 with (first | (refine box_row rfl _ _ rfl a.cells.toArray rfl hinfA.out ?_; intro w0 hbx hs0; have hbxl := blk_lt hbx; replace hbx := Lib.hid hbx; replace hs0 := Lib.hid hs0) | (refine box_row rfl _ _ rfl b.cells.toArray rfl hinfB.out ?_; intro w1 hby hs1; replace hby := Lib.hid hby; replace hs1 := Lib.hid hs1))
    have hbx1 := Lib.hid (hs1.out.at hbx.out)
    have hw1 := Lib.hid (hs0.out.trans hs1.out)
    have c0 := sl_view hbx1.out
    have c3 := sl_is hbx1.out
    have c43 := sl_holds hbx1.out hwa.out
    have c84 := sl_decided hbx1.out hwa.out
    have d0 := sl_view hby.out
    have d3 := sl_is hby.out
    have d43 := sl_holds hby.out hwb.out
    have d84 := sl_decided hby.out hwb.out
    clear hbx hs0 hs1
    rw [e1.out] at c0
    rw [x1.out] at c3
    rw [x2.out] at d3
    cases x
    · go_wp2
      go_ret
      exact ⟨rfl, hw1.out⟩
    · go_wp2
      go_ret
      exact ⟨rfl, hw1.out⟩
  · replace e1 := Lib.hid e1
    replace e2 := Lib.hid e2
    replace x1 := Lib.hid x1
    replace x2 := Lib.hid x2
    go_enter Try.func19, Try.ntmps19
    go_upto_region 1 with (first | (refine box_row rfl _ _ rfl a.cells.toArray rfl hinfA.out ?_; intro w0 hbx hs0; have hbxl := blk_lt hbx; replace hbx := Lib.hid hbx; replace hs0 := Lib.hid hs0) | (refine box_row rfl _ _ rfl b.cells.toArray rfl hinfB.out ?_; intro w1 hby hs1; replace hby := Lib.hid hby; replace hs1 := Lib.hid hs1))
    have hbx1 := Lib.hid (hs1.out.at hbx.out)
    have hw1 := Lib.hid (hs0.out.trans hs1.out)
    have c0 := sl_view hbx1.out
    have c3 := sl_is hbx1.out
    have c43 := sl_holds hbx1.out hwa.out
    have c84 := sl_decided hbx1.out hwa.out
    have d0 := sl_view hby.out
    have d3 := sl_is hby.out
    have d43 := sl_holds hby.out hwb.out
    have d84 := sl_decided hby.out hwb.out
    clear hbx hs0 hs1
    rw [e1.out] at c0
    rw [e2.out] at c3
    rw [x1.out] at c43
    rw [x2.out] at d43
    cases x
    · go_wp2
      go_ret
      exact ⟨rfl, hw1.out⟩
    · go_wp2
      go_ret
      exact ⟨rfl, hw1.out⟩
  · replace e1 := Lib.hid e1
    replace e2 := Lib.hid e2
    replace e3 := Lib.hid e3
    replace x1 := Lib.hid x1
    replace x2 := Lib.hid x2
    go_enter Try.func19, Try.ntmps19
    go_upto_region 1 with (first | (refine box_row rfl _ _ rfl a.cells.toArray rfl hinfA.out ?_; intro w0 hbx hs0; have hbxl := blk_lt hbx; replace hbx := Lib.hid hbx; replace hs0 := Lib.hid hs0) | (refine box_row rfl _ _ rfl b.cells.toArray rfl hinfB.out ?_; intro w1 hby hs1; replace hby := Lib.hid hby; replace hs1 := Lib.hid hs1))
    have hbx1 := Lib.hid (hs1.out.at hbx.out)
    have hw1 := Lib.hid (hs0.out.trans hs1.out)
    have c0 := sl_view hbx1.out
    have c3 := sl_is hbx1.out
    have c43 := sl_holds hbx1.out hwa.out
    have c84 := sl_decided hbx1.out hwa.out
    have d0 := sl_view hby.out
    have d3 := sl_is hby.out
    have d43 := sl_holds hby.out hwb.out
    have d84 := sl_decided hby.out hwb.out
    clear hbx hs0 hs1
    rw [e1.out] at c0
    rw [e2.out] at c3
    rw [e3.out] at c43
    rw [x1.out] at c84
    rw [x2.out] at d84
    cases x
    · go_wp2
      go_ret
      exact ⟨rfl, hw1.out⟩
    · go_wp2
      go_ret
      exact ⟨rfl, hw1.out⟩
set_option maxRecDepth 100000 in
set_option maxHeartbeats 3200000 in
theorem rslotSame_yes (a b : SlotV) (w : World) (ha : a.at w) (hb : b.at w) (e1 : a.view = b.view) (e2 : a.is = b.is) (e3 : a.holds = b.holds) (e4 : a.decided = b.decided) :
    Calls Try.prog 19 #[.agg a.cells.toArray, .agg b.cells.toArray] w fun e w' => e = .returned (.bool (batSame a.bat b.bat && ((batSame a.hbat b.hbat && CertV.same a.hcert b.hcert) && (decide (a.eslot = b.eslot) && (batSame a.ebat b.ebat && CertV.same a.ecert b.ecert))))) ∧ Same w w' := by
  have hwa := Lib.hid ha.wf
  have hwb := Lib.hid hb.wf
  have hinfA := Lib.hid (rslot_info hwa.out)
  have hinfB := Lib.hid (rslot_info hwb.out)
  have fb := Lib.hid (bat_infoL a.bat)
  have fb' := Lib.hid (bat_infoL b.bat)
  have fH := Lib.hid (held_infoL (b := a.hbat) hwa.out.1)
  have fH' := Lib.hid (held_infoL (b := b.hbat) hwb.out.1)
  have fE := Lib.hid (ent_infoL (s := a.eslot) (b := a.ebat) hwa.out.2)
  have fE' := Lib.hid (ent_infoL (s := b.eslot) (b := b.ebat) hwb.out.2)
  have zH : (Try.prog.info? 38).map (fun i => (i.zero, i.size)) = some (some (.agg (heldCells zeroBat zeroCert).toArray), (heldCells a.hbat a.hcert).length) := by rw [held_len hwa.out.1]; kernel_rfl
  have zH' : (Try.prog.info? 38).map (fun i => (i.zero, i.size)) = some (some (.agg (heldCells zeroBat zeroCert).toArray), (heldCells b.hbat b.hcert).length) := by rw [held_len hwb.out.1]; kernel_rfl
  have hS := Lib.hid (fun w h1 h2 => rbsame_any a.bat b.bat w h1 h2)
  have hH := Lib.hid (fun g1 g2 w h1 h2 h3 h4 h5 h6 => rheldSame_any g1 g2 a.hbat b.hbat a.hcert b.hcert w h1 h2 h3 h4 h5 h6)
  have hE := Lib.hid (fun w h1 h2 h3 h4 => rentSame_any a.eslot b.eslot a.ebat b.ebat a.ecert b.ecert w h1 h2 h3 h4)
  obtain ⟨B, hBe⟩ : ∃ x, x = batSame a.bat b.bat := ⟨_, rfl⟩
  obtain ⟨K, hKe⟩ : ∃ x, x = (batSame a.hbat b.hbat && CertV.same a.hcert b.hcert) := ⟨_, rfl⟩
  obtain ⟨E, hEe⟩ : ∃ x, x = (decide (a.eslot = b.eslot) && (batSame a.ebat b.ebat && CertV.same a.ecert b.ecert)) := ⟨_, rfl⟩
  rw [← hBe] at hS ⊢
  rw [← hKe] at hH ⊢
  rw [← hEe] at hE ⊢
  clear hBe hKe hEe
  replace zH := Lib.hid zH
  replace zH' := Lib.hid zH'
  replace ha := Lib.hid ha
  replace hb := Lib.hid hb
  replace e1 := Lib.hid e1
  replace e2 := Lib.hid e2
  replace e3 := Lib.hid e3
  replace e4 := Lib.hid e4
  have o1 : (b.view != b.view) = false := by simp
  have o2 : (b.is != b.is) = false := by simp
  have o3 : (b.holds != b.holds) = false := by simp
  have o4 : (b.decided != b.decided) = false := by simp
  go_enter Try.func19, Try.ntmps19
  go_upto_region 1 with (first | (refine box_row rfl _ _ rfl a.cells.toArray rfl hinfA.out ?_; intro w0 hbx hs0; have hbxl := blk_lt hbx; replace hbx := Lib.hid hbx; replace hs0 := Lib.hid hs0) | (refine box_row rfl _ _ rfl b.cells.toArray rfl hinfB.out ?_; intro w1 hby hs1; replace hby := Lib.hid hby; replace hs1 := Lib.hid hs1))
  have hbx1 := Lib.hid (hs1.out.at hbx.out)
  have hw1 := Lib.hid (hs0.out.trans hs1.out)
  have c0 := sl_view hbx1.out
  have c3 := sl_is hbx1.out
  have c43 := sl_holds hbx1.out hwa.out
  have c84 := sl_decided hbx1.out hwa.out
  have d0 := sl_view hby.out
  have d3 := sl_is hby.out
  have d43 := sl_holds hby.out hwb.out
  have d84 := sl_decided hby.out hwb.out
  clear hbx hs0 hs1
  rw [e1.out] at c0
  rw [e2.out] at c3
  rw [e3.out] at c43
  rw [e4.out] at c84
  go_wp2_with (first | (refine load_mid rfl _ _ rfl w.heap.size 1 rfl a.bat.cells _ (sl_bat hbx1.out) Try.underlying26 rfl fb.out ?_) | (refine load_mid rfl _ _ rfl w0.heap.size 1 rfl b.bat.cells _ (sl_bat hby.out) Try.underlying26 rfl fb'.out ?_))
  clear c0 c3 c43 c84 d0 d3 d43 d84 o1 o2 o3 o4
  refine (hS.out _ (SlotV.same' ha.out hw1.out).2.2.1 (SlotV.same' hb.out hw1.out).2.2.1).mono ?_
  rintro e w2 ⟨rfl, hs⟩
  have st := Lib.hid hs
  clear hs
  cases B
  · go_wp2
    go_ret
    exact ⟨rfl, hw1.out.trans st.out⟩
  · go_wp2_with (first | (refine load_mid rfl _ _ rfl w.heap.size 4 rfl (heldCells a.hbat a.hcert) _ (st.out.range (sl_held hbx1.out)) Try.underlying38 rfl fH.out ?_) | (refine build_slice1 rfl _ 38 _ rfl (heldCells a.hbat a.hcert) rfl Try.underlying163 _ zH.out (by rw [held_len hwa.out.1]; decide) (by rw [held_len hwa.out.1]; decide) ?_; intro w3 hA3 hs3; have st3 := Lib.hid (st.out.trans hs3); replace hA3 := Lib.hid hA3; replace hs3 := Lib.hid hs3) | (refine load_mid rfl _ _ rfl w0.heap.size 4 rfl (heldCells b.hbat b.hcert) _ (st3.out.range (sl_held hby.out)) Try.underlying38 rfl fH'.out ?_) | (refine build_slice1 rfl _ 38 _ rfl (heldCells b.hbat b.hcert) rfl Try.underlying163 _ zH'.out (by rw [held_len hwb.out.1]; decide) (by rw [held_len hwb.out.1]; decide) ?_; intro w4 hB4 hs4; replace hB4 := Lib.hid hB4; replace hs4 := Lib.hid hs4))
    have q1 : w4.rangeAt w2.heap.size 0 (heldCells a.hbat a.hcert) := part_range (pre := []) (post := []) (by rw [List.append_nil]; exact hs4.out.at hA3.out) rfl
    have q2 : w4.rangeAt w3.heap.size 0 (heldCells b.hbat b.hcert) := part_range (pre := []) (post := []) (by rw [List.append_nil]; exact hB4.out) rfl
    have st4 := Lib.hid (st3.out.trans hs4.out)
    have ha4 := SlotV.same' ha.out (hw1.out.trans st4.out)
    have hb4 := SlotV.same' hb.out (hw1.out.trans st4.out)
    have hcall := hH.out _ _ _ q1 q2 ha4.2.2.2.1 hb4.2.2.2.1 ha4.2.2.2.2.1 hb4.2.2.2.2.1
    clear q1 q2 ha4 hb4 hA3 hB4 hs3 hs4 st3
    refine hcall.mono ?_
    rintro e w5 ⟨rfl, hs⟩
    have st5 := Lib.hid (st4.out.trans hs)
    clear hs hcall st4 st
    cases K
    · go_wp2
      go_ret
      exact ⟨rfl, hw1.out.trans st5.out⟩
    · go_wp2_with (first | (refine load_mid rfl _ _ rfl w.heap.size 44 rfl (entCells a.eslot a.ebat a.ecert) _ (st5.out.range (sl_ent hbx1.out hwa.out)) Try.underlying40 rfl fE.out ?_) | (refine load_mid rfl _ _ rfl w0.heap.size 44 rfl (entCells b.eslot b.ebat b.ecert) _ (st5.out.range (sl_ent hby.out hwb.out)) Try.underlying40 rfl fE'.out ?_))
      have ha5 := SlotV.same' ha.out (hw1.out.trans st5.out)
      have hb5 := SlotV.same' hb.out (hw1.out.trans st5.out)
      refine (hE.out _ ha5.2.2.2.2.2.1 hb5.2.2.2.2.2.1 ha5.2.2.2.2.2.2 hb5.2.2.2.2.2.2).mono ?_
      rintro e w6 ⟨rfl, hs⟩
      have st6 := Lib.hid (st5.out.trans hs)
      clear hs ha5 hb5
      go_wp2
      go_ret
      exact ⟨rfl, hw1.out.trans st6.out⟩
theorem rslotSame_any (a b : SlotV) (w : World) (ha : a.at w) (hb : b.at w) :
    Calls Try.prog 19 #[.agg a.cells.toArray, .agg b.cells.toArray] w fun e w' => e = .returned (.bool (slotSame a b)) ∧ Same w w' := by
  by_cases h : a.view = b.view ∧ a.is = b.is ∧ a.holds = b.holds ∧ a.decided = b.decided
  · obtain ⟨h1, h2, h3, h4⟩ := h
    have := rslotSame_yes a b w ha hb h1 h2 h3 h4
    unfold slotSame
    simp only [h1, h2, h3, h4, decide_true, Bool.true_and]
    exact this
  · have e : slotSame a b = false := by
      rw [Bool.eq_false_iff]
      intro h2
      simp only [slotSame, Bool.and_eq_true, decide_eq_true_eq] at h2
      exact h ⟨h2.1, h2.2.1, h2.2.2.1, h2.2.2.2.1⟩
    rw [e]
    exact rslotSame_no a b w ha hb h
end Go.Proofs.Ytmacgmmjgdmleaa
namespace Go.Proofs.Ytmacgmmjgdmleaa
open Go Go.RowKit
set_option linter.unusedSimpArgs false
set_option linter.unusedVariables false

set_option maxRecDepth 100000
section
variable {P : Program} {ops : Array Oper} {rest : List Oper} {o : Oper} {a : Act} {Q : Exit → Act → World → Prop}
theorem index_const {W : World} {ty : TypeId} {x i : Operand} (v : Value) (hg : Region.wanted o (yielded ops a.tmps) = true) (_ho : o.op = .index ty x i) (hr : (execOp a.eval o).run P W = .ok (.value v) W) (h : wpList P ops Q rest (a.put o.dst v) W) : wpList P ops Q (o :: rest) a W :=
  wpL_value hg hr h
end
/-- A batch beside whether it counts. -/
def kc (i : Bool) (b : BatV) : List Value := [.bool i, .bool b.noop, .slice b.ao b.reqs.length b.c]
def knownOf (l : List (Bool × BatV)) (d : List UInt8) : BatV × Bool := ((l.find? fun x => x.1 && decide (bDig x.2 = d)).map fun x => (x.2, true)).getD (zeroBat, false)
theorem known_list (s : SlotV) (d : List UInt8) : s.known d = knownOf [(s.decided, s.ebat), (s.is, s.bat), (s.holds, s.hbat)] d := by
  unfold SlotV.known knownOf
  simp only [List.find?_cons, List.find?_nil]
  by_cases h1 : s.decided = true ∧ bDig s.ebat = d
  · rw [if_pos h1, h1.1, decide_eq_true h1.2]
    rfl
  · have e1 : (s.decided && decide (bDig s.ebat = d)) = false := by
      cases hd : s.decided
      · rfl
      · rw [decide_eq_false (fun h => h1 ⟨hd, h⟩)]; rfl
    rw [if_neg h1, e1]
    by_cases h2 : s.is = true ∧ bDig s.bat = d
    · rw [if_pos h2, h2.1, decide_eq_true h2.2]
      rfl
    · have e2 : (s.is && decide (bDig s.bat = d)) = false := by
        cases hd : s.is
        · rfl
        · rw [decide_eq_false (fun h => h2 ⟨hd, h⟩)]; rfl
      rw [if_neg h2, e2]
      by_cases h3 : s.holds = true ∧ bDig s.hbat = d
      · rw [if_pos h3, h3.1, decide_eq_true h3.2]
        rfl
      · have e3 : (s.holds && decide (bDig s.hbat = d)) = false := by
          cases hd : s.holds
          · rfl
          · rw [decide_eq_false (fun h => h3 ⟨hd, h⟩)]; rfl
        rw [if_neg h3, e3]
        rfl
theorem knownOf_cons_no {i : Bool} {b : BatV} {l : List (Bool × BatV)} {d : List UInt8} (h : (i && decide (bDig b = d)) = false) : knownOf ((i, b) :: l) d = knownOf l d := by
  unfold knownOf
  simp only [List.find?_cons, h]
theorem knownOf_cons_yes {i : Bool} {b : BatV} {l : List (Bool × BatV)} {d : List UInt8} (h : (i && decide (bDig b = d)) = true) : knownOf ((i, b) :: l) d = (b, true) := by
  unfold knownOf
  simp only [List.find?_cons, h]
  rfl
set_option maxRecDepth 100000 in
set_option maxHeartbeats 6400000 in
theorem known_any (s : SlotV) (d : List UInt8) (hd : d.length = 32) (w : World) (hs0 : s.at w) (h1 : s.ebat.small) (h2 : s.bat.small) (h3 : s.hbat.small) :
    Calls Try.prog 27 #[.agg s.cells.toArray, .agg (bv d).toArray] w fun e w' => e = .returned (.tuple #[.agg (s.known d).1.cells.toArray, .bool (s.known d).2]) ∧ Same w w' := by
  have hwf := hs0.wf
  have hinf := Lib.hid (slot_info hwf)
  have hinfD := Lib.hid (dig_info hd)
  have hb0 := Lib.hid hs0.2.2.2.2.2.1
  have hb1 := Lib.hid hs0.2.2.1
  have hb2 := Lib.hid hs0.2.2.2.1
  have i0 := Lib.hid (bat_infoL s.ebat)
  have i1 := Lib.hid (bat_infoL s.bat)
  have i2 := Lib.hid (bat_infoL s.hbat)
  have hinfZ := Lib.hid (bat_info zeroBat)
  rw [known_list]
  obtain ⟨R, hR⟩ : ∃ R, R = knownOf [(s.decided, s.ebat), (s.is, s.bat), (s.holds, s.hbat)] d := ⟨_, rfl⟩
  rw [← hR]
  have m0 : ((s.decided && decide (bDig s.ebat = d)) = false → R = knownOf [(s.is, s.bat), (s.holds, s.hbat)] d) ∧ ((s.decided && decide (bDig s.ebat = d)) = true → R = (s.ebat, true)) := ⟨fun h => by rw [hR, knownOf_cons_no h], fun h => by rw [hR, knownOf_cons_yes h]⟩
  have m1 : R = knownOf [(s.is, s.bat), (s.holds, s.hbat)] d → ((s.is && decide (bDig s.bat = d)) = false → R = knownOf [(s.holds, s.hbat)] d) ∧ ((s.is && decide (bDig s.bat = d)) = true → R = (s.bat, true)) := fun e => ⟨fun h => by rw [e, knownOf_cons_no h], fun h => by rw [e, knownOf_cons_yes h]⟩
  have m2 : R = knownOf [(s.holds, s.hbat)] d → ((s.holds && decide (bDig s.hbat = d)) = false → R = knownOf [] d) ∧ ((s.holds && decide (bDig s.hbat = d)) = true → R = (s.hbat, true)) := fun e => ⟨fun h => by rw [e, knownOf_cons_no h], fun h => by rw [e, knownOf_cons_yes h]⟩
  obtain ⟨K1, hK1⟩ : ∃ K : Prop, K = (R = knownOf [(s.is, s.bat), (s.holds, s.hbat)] d) := ⟨_, rfl⟩
  obtain ⟨K2, hK2⟩ : ∃ K : Prop, K = (R = knownOf [(s.holds, s.hbat)] d) := ⟨_, rfl⟩
  obtain ⟨K3, hK3⟩ : ∃ K : Prop, K = (R = knownOf [] d) := ⟨_, rfl⟩
  have hend : K3 → R = (zeroBat, false) := fun h => by rw [hK3] at h; rw [h]; rfl
  rw [← hK1] at m0 m1
  rw [← hK2] at m1 m2
  rw [← hK3] at m2
  clear hR hK1 hK2 hK3
  replace m0 := Lib.hid m0
  replace m1 := Lib.hid m1
  replace m2 := Lib.hid m2
  replace hend := Lib.hid hend
  replace hwf := Lib.hid hwf
  clear hs0
  replace h1 := Lib.hid h1
  replace h2 := Lib.hid h2
  replace h3 := Lib.hid h3
  go_enter Try.func27, Try.ntmps27
  go_upto_region 1 with (first | (refine box_row rfl _ _ rfl s.cells.toArray rfl hinf.out ?_; intro w0 hbs hs0; have l0 := blk_lt hbs; replace hbs := Lib.hid hbs; replace hs0 := Lib.hid hs0) | (refine box_row rfl _ _ rfl (bv d).toArray rfl hinfD.out ?_; intro w1 hbb hs1; have l1 := blk_lt hbb; replace hbb := Lib.hid hbb; replace hs1 := Lib.hid hs1) | (refine alloc_new rfl 26 rfl #[.bool false, .slice none 0 0] (by kernel_rfl) ?_; intro w2 hbz hs2; have l2 := blk_lt hbz; replace hbz := Lib.hid hbz; replace hs2 := Lib.hid hs2))
  have r0 := Lib.hid ((hs1.out.trans hs2.out).at hbs.out)
  have r1 := Lib.hid (hs2.out.at hbb.out)
  have r2 := hbz
  have hw2 := Lib.hid (hs0.out.trans (hs1.out.trans hs2.out))
  have z0 := hs0.out.size
  have z1 := hs1.out.size
  have z2 := hs2.out.size
  have c3 := sl_is r0.out
  have c43 := sl_holds r0.out hwf.out
  have c84 := sl_decided r0.out hwf.out
  clear hbs hbb hs0 hs1 hs2
  go_wp2_with (first | (refine load_mid rfl _ _ rfl w.heap.size 45 rfl s.ebat.cells _ (sl_ebat r0.out hwf.out) Try.underlying26 rfl i0.out ?_) | (refine load_mid rfl _ _ rfl w.heap.size 1 rfl s.bat.cells _ (sl_bat r0.out) Try.underlying26 rfl i1.out ?_) | (refine load_mid rfl _ _ rfl w.heap.size 4 rfl s.hbat.cells _ (sl_hbat r0.out) Try.underlying26 rfl i2.out ?_) | (refine build_struct rfl _ _ rfl [(0, .bool s.decided), (1, .agg s.ebat.cells.toArray)] rfl (kc s.decided s.ebat).toArray (by kernel_rfl) ?_) | (refine build_struct rfl _ _ rfl [(0, .bool s.is), (1, .agg s.bat.cells.toArray)] rfl (kc s.is s.bat).toArray (by kernel_rfl) ?_) | (refine build_struct rfl _ _ rfl [(0, .bool s.holds), (1, .agg s.hbat.cells.toArray)] rfl (kc s.holds s.hbat).toArray (by kernel_rfl) ?_) | (refine build_struct rfl _ _ rfl [(0, .agg (kc s.decided s.ebat).toArray), (1, .agg (kc s.is s.bat).toArray), (2, .agg (kc s.holds s.hbat).toArray)] rfl (kc s.decided s.ebat ++ (kc s.is s.bat ++ kc s.holds s.hbat)).toArray (by kernel_rfl) ?_))
  clear c3 c43 c84 r0 i0 i1 i2
  go_loopw [26] (fun i wr => (i = .int .i64 0 ∨ i = .int .i64 1 ∧ K1 ∨ i = .int .i64 2 ∧ K2 ∨ i = .int .i64 3 ∧ K3) ∧ Same w2 wr) (fun i _ => 3 - (intOf i).toNat)
  case atStart => exact ⟨.inl rfl, Same.refl⟩
  case round =>
    obtain ⟨hj, hs⟩ := hrel
    rcases hj with rfl | ⟨rfl, hK⟩ | ⟨rfl, hK⟩ | ⟨rfl, hK⟩
    · have hdig := Lib.hid (fun w h => bdig_any s.ebat w h h1.out)
      have hnext := m0.out
      obtain ⟨D, hD⟩ : ∃ D, D = bDig s.ebat := ⟨_, rfl⟩
      rw [show batDig s.ebat.noop s.ebat.reqs = D from hD.symm] at hdig
      have hDl : D.length = 32 := by rw [hD]; exact bDig_length _
      obtain ⟨q, hq⟩ : ∃ q, q = (D == d) := ⟨_, rfl⟩
      have hqd : decide (bDig s.ebat = d) = q := by rw [hq, ← hD, Bool.eq_iff_iff]; simp
      have hqe := fun w => dig_eql D d hDl hd w
      rw [← hq] at hqe
      have hgd := dig_guard
      have hinfk : (Try.prog.info? 169).map (·.size) = some (kc s.decided s.ebat).toArray.size := by show _ = some 3; kernel_rfl
      have hinfb := bat_infoL s.ebat
      have hbat := hb0.out
      obtain ⟨i, hi⟩ : ∃ i, i = s.decided := ⟨_, rfl⟩
      rw [← hi] at hinfk hnext ⊢
      rw [hqd] at hnext
      clear hD hDl hq hqd hi
      replace hqe := Lib.hid hqe
      replace hgd := Lib.hid hgd
      replace hinfk := Lib.hid hinfk
      replace hinfb := Lib.hid hinfb
      replace hbat := Lib.hid hbat
      replace hnext := Lib.hid hnext
      replace hs := Lib.hid hs
      go_upto_region 4 with (first | (refine index_const (ty := 170) (.agg (kc i s.ebat).toArray) rfl rfl (by kernel_rfl) ?_) | (refine alloc_new rfl 169 rfl #[.bool false, .bool false, .slice none 0 0] (by kernel_rfl) ?_; intro w4 hz hs4; have l4 := blk_lt hz; replace hz := Lib.hid hz; replace hs4 := Lib.hid hs4) | (refine store_row rfl _ _ _ rfl wr.heap.size (kc i s.ebat).toArray rfl rfl _ _ hz.out hinfk.out rfl (by kernel_rfl) ?_; intro w5 rk hk5; replace rk := Lib.hid rk; replace hk5 := Lib.hid hk5))
      have hs5 : Same wr w5 := hs4.out.keep hk5.out (fun x hx hv => by omega)
      have hw5 := Lib.hid (hs.out.trans hs5)
      clear hs5 hk5 hs4 hz hs
      have k0 : w5.cell? ⟨wr.heap.size, 0, none⟩ = some (.bool i) := by rw [blk_cell rk.out]; rfl
      have k1 : w5.rangeAt wr.heap.size 1 s.ebat.cells := part_range (pre := [.bool i]) (post := []) (by rw [List.append_nil]; exact rk.out) rfl
      replace k0 := Lib.hid k0
      replace k1 := Lib.hid k1
      go_simp
      go_cut [37] (fun v wx => v = .bool (i && q) ∧ Same w5 wx)
      case first =>
        cases i
        · skip
          refine wp_region_facts (by kernel_rfl) [(29, 0), (30, 1), (31, 2), (32, 3), (33, 4), (34, 5), (35, 6), (36, 7), (37, 8)] Same (Same _) [isV (.pointer (some ⟨wr.heap.size, 0, none⟩)), isV (.bool false), isV (.bool false), isV undef, isV undef, isV undef, isV undef, isV undef, isV (.bool false)] Same.refl.drew (fun _ _ h k => h.trans k) (by simp [isV_stable, isB_stable, isAny_stable]) (by decide) (by decide) ?_ ?_
          · refine ⟨?_, ?_, ?_, ?_, ?_, ?_, ?_, ?_, ?_, trivial⟩
            all_goals (intro u wx hI hp; simp only [mkAct, List.foldl_cons, List.foldl_nil, List.setIfInBounds_toArray, List.set_cons_succ, List.set_cons_zero])
            · -- operation 0
              go_wp2
              refine stq_v rfl Same.refl ?_
              first | (simp only [mkAct, List.foldl_cons, List.foldl_nil, List.setIfInBounds_toArray, List.set_cons_succ, List.set_cons_zero, upd, reduceIte, Nat.reduceEqDiff, Nat.reduceAdd, str]; done) | (simp [mkAct, upd, str, *]; done)
            · -- operation 1
              obtain ⟨f0, -⟩ := hp
              replace f0 : u 0 = (.pointer (some ⟨wr.heap.size, 0, none⟩)) := f0
              try simp only [f0, str]
              have cx := hI.cell (k0.out)
              go_wp2
              refine stq_v rfl Same.refl ?_
              first | (simp only [mkAct, List.foldl_cons, List.foldl_nil, List.setIfInBounds_toArray, List.set_cons_succ, List.set_cons_zero, upd, reduceIte, Nat.reduceEqDiff, Nat.reduceAdd, f0, str]; done) | (simp [mkAct, upd, f0, str, *]; done)
            · -- operation 2
              obtain ⟨f1, -⟩ := hp
              replace f1 : u 1 = (.bool false) := f1
              try simp only [f1, str]
              go_wp2
              refine stq_v rfl Same.refl ?_
              first | (simp only [mkAct, List.foldl_cons, List.foldl_nil, List.setIfInBounds_toArray, List.set_cons_succ, List.set_cons_zero, upd, reduceIte, Nat.reduceEqDiff, Nat.reduceAdd, f1, str]; done) | (simp [mkAct, upd, f1, str, *]; done)
            · -- operation 3
              obtain ⟨f2, -⟩ := hp
              replace f2 : u 2 = (.bool false) := f2
              try simp only [f2, str]
              go_wp2
              refine stq_v rfl Same.refl ?_
              first | (simp only [mkAct, List.foldl_cons, List.foldl_nil, List.setIfInBounds_toArray, List.set_cons_succ, List.set_cons_zero, upd, reduceIte, Nat.reduceEqDiff, Nat.reduceAdd, f2, str]; done) | (simp [mkAct, upd, f2, str, *]; done)
            · -- operation 4
              obtain ⟨f3, f2, -⟩ := hp
              replace f3 : u 3 = undef := f3
              replace f2 : u 2 = (.bool false) := f2
              try simp only [f3, f2, str]
              go_wp2
              refine stq_v rfl Same.refl ?_
              first | (simp only [mkAct, List.foldl_cons, List.foldl_nil, List.setIfInBounds_toArray, List.set_cons_succ, List.set_cons_zero, upd, reduceIte, Nat.reduceEqDiff, Nat.reduceAdd, f3, f2, str]; done) | (simp [mkAct, upd, f3, f2, str, *]; done)
            · -- operation 5
              obtain ⟨f4, -, f2, -⟩ := hp
              replace f4 : u 4 = undef := f4
              replace f2 : u 2 = (.bool false) := f2
              try simp only [f4, f2, str]
              go_wp2
              refine stq_v rfl Same.refl ?_
              first | (simp only [mkAct, List.foldl_cons, List.foldl_nil, List.setIfInBounds_toArray, List.set_cons_succ, List.set_cons_zero, upd, reduceIte, Nat.reduceEqDiff, Nat.reduceAdd, f4, f2, str]; done) | (simp [mkAct, upd, f4, f2, str, *]; done)
            · -- operation 6
              obtain ⟨f2, -⟩ := hp
              replace f2 : u 2 = (.bool false) := f2
              try simp only [f2, str]
              go_wp2
              refine stq_v rfl Same.refl ?_
              first | (simp only [mkAct, List.foldl_cons, List.foldl_nil, List.setIfInBounds_toArray, List.set_cons_succ, List.set_cons_zero, upd, reduceIte, Nat.reduceEqDiff, Nat.reduceAdd, f2, str]; done) | (simp [mkAct, upd, f2, str, *]; done)
            · -- operation 7
              obtain ⟨f5, f6, f2, -⟩ := hp
              replace f5 : u 5 = undef := f5
              replace f6 : u 6 = undef := f6
              replace f2 : u 2 = (.bool false) := f2
              try simp only [f5, f6, f2, str]
              go_wp2
              refine stq_v rfl Same.refl ?_
              first | (simp only [mkAct, List.foldl_cons, List.foldl_nil, List.setIfInBounds_toArray, List.set_cons_succ, List.set_cons_zero, upd, reduceIte, Nat.reduceEqDiff, Nat.reduceAdd, f5, f6, f2, str]; done) | (simp [mkAct, upd, f5, f6, f2, str, *]; done)
            · -- operation 8
              obtain ⟨f2, f7, -⟩ := hp
              replace f2 : u 2 = (.bool false) := f2
              replace f7 : u 7 = undef := f7
              try simp only [f2, f7, str]
              go_wp2
              refine stq_v rfl Same.refl ?_
              first | (simp only [mkAct, List.foldl_cons, List.foldl_nil, List.setIfInBounds_toArray, List.set_cons_succ, List.set_cons_zero, upd, reduceIte, Nat.reduceEqDiff, Nat.reduceAdd, f2, f7, str]; done) | (simp [mkAct, upd, f2, f7, str, *]; done)
          · intro u wx hI hR
            obtain ⟨r0, r1, r2, r3, r4, r5, r6, r7, r8, -⟩ := hR
            replace r0 : u 0 = (.pointer (some ⟨wr.heap.size, 0, none⟩)) := r0
            replace r1 : u 1 = (.bool false) := r1
            replace r2 : u 2 = (.bool false) := r2
            replace r3 : u 3 = undef := r3
            replace r4 : u 4 = undef := r4
            replace r5 : u 5 = undef := r5
            replace r6 : u 6 = undef := r6
            replace r7 : u 7 = undef := r7
            replace r8 : u 8 = (.bool false) := r8
            simp only [mkAct, List.foldl_cons, List.foldl_nil, List.setIfInBounds_toArray, List.set_cons_succ, List.set_cons_zero]
            try simp only [str, r0, r1, r2, r3, r4, r5, r6, r7, r8]
            go_wp2
            go_meet
            exact ⟨rfl, hI⟩
        · skip
          refine wp_region_facts (by kernel_rfl) [(29, 0), (30, 1), (31, 2), (32, 3), (33, 4), (34, 5), (35, 6), (36, 7), (37, 8)] Same (Same _) [isV (.pointer (some ⟨wr.heap.size, 0, none⟩)), isV (.bool true), isV (.bool true), isV (.pointer (some ⟨wr.heap.size, 1, none⟩)), isV (.agg s.ebat.cells.toArray), isV (.agg (bv D).toArray), isV (.agg (bv d).toArray), isV (.bool q), isV (.bool q)] Same.refl.drew (fun _ _ h k => h.trans k) (by simp [isV_stable, isB_stable, isAny_stable]) (by decide) (by decide) ?_ ?_
          · refine ⟨?_, ?_, ?_, ?_, ?_, ?_, ?_, ?_, ?_, trivial⟩
            all_goals (intro u wx hI hp; simp only [mkAct, List.foldl_cons, List.foldl_nil, List.setIfInBounds_toArray, List.set_cons_succ, List.set_cons_zero])
            · -- operation 0
              go_wp2
              refine stq_v rfl Same.refl ?_
              first | (simp only [mkAct, List.foldl_cons, List.foldl_nil, List.setIfInBounds_toArray, List.set_cons_succ, List.set_cons_zero, upd, reduceIte, Nat.reduceEqDiff, Nat.reduceAdd, str]; done) | (simp [mkAct, upd, str, *]; done)
            · -- operation 1
              obtain ⟨f0, -⟩ := hp
              replace f0 : u 0 = (.pointer (some ⟨wr.heap.size, 0, none⟩)) := f0
              try simp only [f0, str]
              have cx := hI.cell (k0.out)
              go_wp2
              refine stq_v rfl Same.refl ?_
              first | (simp only [mkAct, List.foldl_cons, List.foldl_nil, List.setIfInBounds_toArray, List.set_cons_succ, List.set_cons_zero, upd, reduceIte, Nat.reduceEqDiff, Nat.reduceAdd, f0, str]; done) | (simp [mkAct, upd, f0, str, *]; done)
            · -- operation 2
              obtain ⟨f1, -⟩ := hp
              replace f1 : u 1 = (.bool true) := f1
              try simp only [f1, str]
              go_wp2
              refine stq_v rfl Same.refl ?_
              first | (simp only [mkAct, List.foldl_cons, List.foldl_nil, List.setIfInBounds_toArray, List.set_cons_succ, List.set_cons_zero, upd, reduceIte, Nat.reduceEqDiff, Nat.reduceAdd, f1, str]; done) | (simp [mkAct, upd, f1, str, *]; done)
            · -- operation 3
              obtain ⟨f2, -⟩ := hp
              replace f2 : u 2 = (.bool true) := f2
              try simp only [f2, str]
              go_wp2
              refine stq_v rfl Same.refl ?_
              first | (simp only [mkAct, List.foldl_cons, List.foldl_nil, List.setIfInBounds_toArray, List.set_cons_succ, List.set_cons_zero, upd, reduceIte, Nat.reduceEqDiff, Nat.reduceAdd, f2, str]; done) | (simp [mkAct, upd, f2, str, *]; done)
            · -- operation 4
              obtain ⟨f3, f2, -⟩ := hp
              replace f3 : u 3 = (.pointer (some ⟨wr.heap.size, 1, none⟩)) := f3
              replace f2 : u 2 = (.bool true) := f2
              try simp only [f3, f2, str]
              go_wp2_with (refine load_mid rfl _ _ rfl wr.heap.size 1 rfl s.ebat.cells _ (hI.range k1.out) Try.underlying26 rfl hinfb.out ?_)
              refine stq_v rfl Same.refl ?_
              first | (simp only [mkAct, List.foldl_cons, List.foldl_nil, List.setIfInBounds_toArray, List.set_cons_succ, List.set_cons_zero, upd, reduceIte, Nat.reduceEqDiff, Nat.reduceAdd, f3, f2, str]; done) | (simp [mkAct, upd, f3, f2, str, *]; done)
            · -- operation 5
              obtain ⟨f4, -, f2, -⟩ := hp
              replace f4 : u 4 = (.agg s.ebat.cells.toArray) := f4
              replace f2 : u 2 = (.bool true) := f2
              try simp only [f4, f2, str]
              go_wp2_with fail
              refine (hdig.out _ (BatV.same hbat.out (hw2.out.trans (hw5.out.trans hI)))).mono ?_
              rintro e w1 ⟨rfl, hs'⟩
              go_wp2
              refine stq_v rfl hs' ?_
              first | (simp only [mkAct, List.foldl_cons, List.foldl_nil, List.setIfInBounds_toArray, List.set_cons_succ, List.set_cons_zero, upd, reduceIte, Nat.reduceEqDiff, Nat.reduceAdd, f4, f2, str]; done) | (simp [mkAct, upd, f4, f2, str, *]; done)
            · -- operation 6
              obtain ⟨f2, -⟩ := hp
              replace f2 : u 2 = (.bool true) := f2
              try simp only [f2, str]
              go_wp2_with (refine load_row rfl _ _ rfl w0.heap.size rfl _ _ _ _ ((hw5.out.trans hI).at r1.out) Try.underlying28 rfl hinfD.out ?_)
              refine stq_v rfl Same.refl ?_
              first | (simp only [mkAct, List.foldl_cons, List.foldl_nil, List.setIfInBounds_toArray, List.set_cons_succ, List.set_cons_zero, upd, reduceIte, Nat.reduceEqDiff, Nat.reduceAdd, f2, str]; done) | (simp [mkAct, upd, f2, str, *]; done)
            · -- operation 7
              obtain ⟨f5, f6, f2, -⟩ := hp
              replace f5 : u 5 = (.agg (bv D).toArray) := f5
              replace f6 : u 6 = (.agg (bv d).toArray) := f6
              replace f2 : u 2 = (.bool true) := f2
              try simp only [f5, f6, f2, str]
              have hx := hqe.out
              have hg := hgd.out
              go_wp2
              refine stq_v rfl Same.refl ?_
              first | (simp only [mkAct, List.foldl_cons, List.foldl_nil, List.setIfInBounds_toArray, List.set_cons_succ, List.set_cons_zero, upd, reduceIte, Nat.reduceEqDiff, Nat.reduceAdd, f5, f6, f2, str]; done) | (simp [mkAct, upd, f5, f6, f2, str, *]; done)
            · -- operation 8
              obtain ⟨f2, f7, -⟩ := hp
              replace f2 : u 2 = (.bool true) := f2
              replace f7 : u 7 = (.bool q) := f7
              try simp only [f2, f7, str]
              go_wp2
              refine stq_v rfl Same.refl ?_
              first | (simp only [mkAct, List.foldl_cons, List.foldl_nil, List.setIfInBounds_toArray, List.set_cons_succ, List.set_cons_zero, upd, reduceIte, Nat.reduceEqDiff, Nat.reduceAdd, f2, f7, str]; done) | (simp [mkAct, upd, f2, f7, str, *]; done)
          · intro u wx hI hR
            obtain ⟨r0, r1, r2, r3, r4, r5, r6, r7, r8, -⟩ := hR
            replace r0 : u 0 = (.pointer (some ⟨wr.heap.size, 0, none⟩)) := r0
            replace r1 : u 1 = (.bool true) := r1
            replace r2 : u 2 = (.bool true) := r2
            replace r3 : u 3 = (.pointer (some ⟨wr.heap.size, 1, none⟩)) := r3
            replace r4 : u 4 = (.agg s.ebat.cells.toArray) := r4
            replace r5 : u 5 = (.agg (bv D).toArray) := r5
            replace r6 : u 6 = (.agg (bv d).toArray) := r6
            replace r7 : u 7 = (.bool q) := r7
            replace r8 : u 8 = (.bool q) := r8
            simp only [mkAct, List.foldl_cons, List.foldl_nil, List.setIfInBounds_toArray, List.set_cons_succ, List.set_cons_zero]
            try simp only [str, r0, r1, r2, r3, r4, r5, r6, r7, r8]
            go_wp2
            go_meet
            exact ⟨rfl, hI⟩
      case rest =>
        obtain ⟨rfl, hI⟩ := hcut
        obtain ⟨G, hG⟩ : ∃ G, G = (i && q) := ⟨_, rfl⟩
        rw [← hG] at hnext ⊢
        clear hG hqe
        have hw6 := Lib.hid (hw5.out.trans hI)
        have k16 := Lib.hid (hI.range k1.out)
        clear hI hw5 k0 k1
        cases G
        · have hn := Lib.hid (hnext.out.1 rfl)
          clear hnext
          go_wp2
          go_roundw
          case rel => exact ⟨.inr (.inl ⟨by go_num, hn.out⟩), hw6.out⟩
          case measure => simp [intOf]
        · have hn := Lib.hid (hnext.out.2 rfl)
          clear hnext
          have r26 := Lib.hid (hw6.out.at r2.out)
          go_wp2_with (first | (refine load_mid rfl _ _ rfl wr.heap.size 1 rfl s.ebat.cells _ k16.out Try.underlying26 rfl hinfb.out ?_) | (refine store_row rfl _ _ _ rfl w1.heap.size s.ebat.cells.toArray rfl rfl _ _ r26.out (bat_info _) rfl (bat_one _) ?_; intro w9 hb9 hk9; replace hb9 := Lib.hid hb9; replace hk9 := Lib.hid hk9))
          refine bodyPost_ret (v := .tuple #[.agg s.ebat.cells.toArray, .bool true]) (results_row2 (p := 4) (q := 5) (ty := 26) rfl _ _ w1.heap.size _ _ _ _ _ rfl rfl hb9.out Try.underlying26 rfl (bat_info _)) rfl ?_
          exact ⟨by rw [hn.out], (hw2.out.trans hw6.out).keep hk9.out (fun x hx hv => by omega)⟩
    · have hdig := Lib.hid (fun w h => bdig_any s.bat w h h2.out)
      have hnext := m1.out hK
      obtain ⟨D, hD⟩ : ∃ D, D = bDig s.bat := ⟨_, rfl⟩
      rw [show batDig s.bat.noop s.bat.reqs = D from hD.symm] at hdig
      have hDl : D.length = 32 := by rw [hD]; exact bDig_length _
      obtain ⟨q, hq⟩ : ∃ q, q = (D == d) := ⟨_, rfl⟩
      have hqd : decide (bDig s.bat = d) = q := by rw [hq, ← hD, Bool.eq_iff_iff]; simp
      have hqe := fun w => dig_eql D d hDl hd w
      rw [← hq] at hqe
      have hgd := dig_guard
      have hinfk : (Try.prog.info? 169).map (·.size) = some (kc s.is s.bat).toArray.size := by show _ = some 3; kernel_rfl
      have hinfb := bat_infoL s.bat
      have hbat := hb1.out
      obtain ⟨i, hi⟩ : ∃ i, i = s.is := ⟨_, rfl⟩
      rw [← hi] at hinfk hnext ⊢
      rw [hqd] at hnext
      clear hD hDl hq hqd hi
      replace hqe := Lib.hid hqe
      replace hgd := Lib.hid hgd
      replace hinfk := Lib.hid hinfk
      replace hinfb := Lib.hid hinfb
      replace hbat := Lib.hid hbat
      replace hnext := Lib.hid hnext
      replace hs := Lib.hid hs
      go_upto_region 4 with (first | (refine index_const (ty := 170) (.agg (kc i s.bat).toArray) rfl rfl (by kernel_rfl) ?_) | (refine alloc_new rfl 169 rfl #[.bool false, .bool false, .slice none 0 0] (by kernel_rfl) ?_; intro w4 hz hs4; have l4 := blk_lt hz; replace hz := Lib.hid hz; replace hs4 := Lib.hid hs4) | (refine store_row rfl _ _ _ rfl wr.heap.size (kc i s.bat).toArray rfl rfl _ _ hz.out hinfk.out rfl (by kernel_rfl) ?_; intro w5 rk hk5; replace rk := Lib.hid rk; replace hk5 := Lib.hid hk5))
      have hs5 : Same wr w5 := hs4.out.keep hk5.out (fun x hx hv => by omega)
      have hw5 := Lib.hid (hs.out.trans hs5)
      clear hs5 hk5 hs4 hz hs
      have k0 : w5.cell? ⟨wr.heap.size, 0, none⟩ = some (.bool i) := by rw [blk_cell rk.out]; rfl
      have k1 : w5.rangeAt wr.heap.size 1 s.bat.cells := part_range (pre := [.bool i]) (post := []) (by rw [List.append_nil]; exact rk.out) rfl
      replace k0 := Lib.hid k0
      replace k1 := Lib.hid k1
      go_simp
      go_cut [37] (fun v wx => v = .bool (i && q) ∧ Same w5 wx)
      case first =>
        cases i
        · skip
          refine wp_region_facts (by kernel_rfl) [(29, 0), (30, 1), (31, 2), (32, 3), (33, 4), (34, 5), (35, 6), (36, 7), (37, 8)] Same (Same _) [isV (.pointer (some ⟨wr.heap.size, 0, none⟩)), isV (.bool false), isV (.bool false), isV undef, isV undef, isV undef, isV undef, isV undef, isV (.bool false)] Same.refl.drew (fun _ _ h k => h.trans k) (by simp [isV_stable, isB_stable, isAny_stable]) (by decide) (by decide) ?_ ?_
          · refine ⟨?_, ?_, ?_, ?_, ?_, ?_, ?_, ?_, ?_, trivial⟩
            all_goals (intro u wx hI hp; simp only [mkAct, List.foldl_cons, List.foldl_nil, List.setIfInBounds_toArray, List.set_cons_succ, List.set_cons_zero])
            · -- operation 0
              go_wp2
              refine stq_v rfl Same.refl ?_
              first | (simp only [mkAct, List.foldl_cons, List.foldl_nil, List.setIfInBounds_toArray, List.set_cons_succ, List.set_cons_zero, upd, reduceIte, Nat.reduceEqDiff, Nat.reduceAdd, str]; done) | (simp [mkAct, upd, str, *]; done)
            · -- operation 1
              obtain ⟨f0, -⟩ := hp
              replace f0 : u 0 = (.pointer (some ⟨wr.heap.size, 0, none⟩)) := f0
              try simp only [f0, str]
              have cx := hI.cell (k0.out)
              go_wp2
              refine stq_v rfl Same.refl ?_
              first | (simp only [mkAct, List.foldl_cons, List.foldl_nil, List.setIfInBounds_toArray, List.set_cons_succ, List.set_cons_zero, upd, reduceIte, Nat.reduceEqDiff, Nat.reduceAdd, f0, str]; done) | (simp [mkAct, upd, f0, str, *]; done)
            · -- operation 2
              obtain ⟨f1, -⟩ := hp
              replace f1 : u 1 = (.bool false) := f1
              try simp only [f1, str]
              go_wp2
              refine stq_v rfl Same.refl ?_
              first | (simp only [mkAct, List.foldl_cons, List.foldl_nil, List.setIfInBounds_toArray, List.set_cons_succ, List.set_cons_zero, upd, reduceIte, Nat.reduceEqDiff, Nat.reduceAdd, f1, str]; done) | (simp [mkAct, upd, f1, str, *]; done)
            · -- operation 3
              obtain ⟨f2, -⟩ := hp
              replace f2 : u 2 = (.bool false) := f2
              try simp only [f2, str]
              go_wp2
              refine stq_v rfl Same.refl ?_
              first | (simp only [mkAct, List.foldl_cons, List.foldl_nil, List.setIfInBounds_toArray, List.set_cons_succ, List.set_cons_zero, upd, reduceIte, Nat.reduceEqDiff, Nat.reduceAdd, f2, str]; done) | (simp [mkAct, upd, f2, str, *]; done)
            · -- operation 4
              obtain ⟨f3, f2, -⟩ := hp
              replace f3 : u 3 = undef := f3
              replace f2 : u 2 = (.bool false) := f2
              try simp only [f3, f2, str]
              go_wp2
              refine stq_v rfl Same.refl ?_
              first | (simp only [mkAct, List.foldl_cons, List.foldl_nil, List.setIfInBounds_toArray, List.set_cons_succ, List.set_cons_zero, upd, reduceIte, Nat.reduceEqDiff, Nat.reduceAdd, f3, f2, str]; done) | (simp [mkAct, upd, f3, f2, str, *]; done)
            · -- operation 5
              obtain ⟨f4, -, f2, -⟩ := hp
              replace f4 : u 4 = undef := f4
              replace f2 : u 2 = (.bool false) := f2
              try simp only [f4, f2, str]
              go_wp2
              refine stq_v rfl Same.refl ?_
              first | (simp only [mkAct, List.foldl_cons, List.foldl_nil, List.setIfInBounds_toArray, List.set_cons_succ, List.set_cons_zero, upd, reduceIte, Nat.reduceEqDiff, Nat.reduceAdd, f4, f2, str]; done) | (simp [mkAct, upd, f4, f2, str, *]; done)
            · -- operation 6
              obtain ⟨f2, -⟩ := hp
              replace f2 : u 2 = (.bool false) := f2
              try simp only [f2, str]
              go_wp2
              refine stq_v rfl Same.refl ?_
              first | (simp only [mkAct, List.foldl_cons, List.foldl_nil, List.setIfInBounds_toArray, List.set_cons_succ, List.set_cons_zero, upd, reduceIte, Nat.reduceEqDiff, Nat.reduceAdd, f2, str]; done) | (simp [mkAct, upd, f2, str, *]; done)
            · -- operation 7
              obtain ⟨f5, f6, f2, -⟩ := hp
              replace f5 : u 5 = undef := f5
              replace f6 : u 6 = undef := f6
              replace f2 : u 2 = (.bool false) := f2
              try simp only [f5, f6, f2, str]
              go_wp2
              refine stq_v rfl Same.refl ?_
              first | (simp only [mkAct, List.foldl_cons, List.foldl_nil, List.setIfInBounds_toArray, List.set_cons_succ, List.set_cons_zero, upd, reduceIte, Nat.reduceEqDiff, Nat.reduceAdd, f5, f6, f2, str]; done) | (simp [mkAct, upd, f5, f6, f2, str, *]; done)
            · -- operation 8
              obtain ⟨f2, f7, -⟩ := hp
              replace f2 : u 2 = (.bool false) := f2
              replace f7 : u 7 = undef := f7
              try simp only [f2, f7, str]
              go_wp2
              refine stq_v rfl Same.refl ?_
              first | (simp only [mkAct, List.foldl_cons, List.foldl_nil, List.setIfInBounds_toArray, List.set_cons_succ, List.set_cons_zero, upd, reduceIte, Nat.reduceEqDiff, Nat.reduceAdd, f2, f7, str]; done) | (simp [mkAct, upd, f2, f7, str, *]; done)
          · intro u wx hI hR
            obtain ⟨r0, r1, r2, r3, r4, r5, r6, r7, r8, -⟩ := hR
            replace r0 : u 0 = (.pointer (some ⟨wr.heap.size, 0, none⟩)) := r0
            replace r1 : u 1 = (.bool false) := r1
            replace r2 : u 2 = (.bool false) := r2
            replace r3 : u 3 = undef := r3
            replace r4 : u 4 = undef := r4
            replace r5 : u 5 = undef := r5
            replace r6 : u 6 = undef := r6
            replace r7 : u 7 = undef := r7
            replace r8 : u 8 = (.bool false) := r8
            simp only [mkAct, List.foldl_cons, List.foldl_nil, List.setIfInBounds_toArray, List.set_cons_succ, List.set_cons_zero]
            try simp only [str, r0, r1, r2, r3, r4, r5, r6, r7, r8]
            go_wp2
            go_meet
            exact ⟨rfl, hI⟩
        · skip
          refine wp_region_facts (by kernel_rfl) [(29, 0), (30, 1), (31, 2), (32, 3), (33, 4), (34, 5), (35, 6), (36, 7), (37, 8)] Same (Same _) [isV (.pointer (some ⟨wr.heap.size, 0, none⟩)), isV (.bool true), isV (.bool true), isV (.pointer (some ⟨wr.heap.size, 1, none⟩)), isV (.agg s.bat.cells.toArray), isV (.agg (bv D).toArray), isV (.agg (bv d).toArray), isV (.bool q), isV (.bool q)] Same.refl.drew (fun _ _ h k => h.trans k) (by simp [isV_stable, isB_stable, isAny_stable]) (by decide) (by decide) ?_ ?_
          · refine ⟨?_, ?_, ?_, ?_, ?_, ?_, ?_, ?_, ?_, trivial⟩
            all_goals (intro u wx hI hp; simp only [mkAct, List.foldl_cons, List.foldl_nil, List.setIfInBounds_toArray, List.set_cons_succ, List.set_cons_zero])
            · -- operation 0
              go_wp2
              refine stq_v rfl Same.refl ?_
              first | (simp only [mkAct, List.foldl_cons, List.foldl_nil, List.setIfInBounds_toArray, List.set_cons_succ, List.set_cons_zero, upd, reduceIte, Nat.reduceEqDiff, Nat.reduceAdd, str]; done) | (simp [mkAct, upd, str, *]; done)
            · -- operation 1
              obtain ⟨f0, -⟩ := hp
              replace f0 : u 0 = (.pointer (some ⟨wr.heap.size, 0, none⟩)) := f0
              try simp only [f0, str]
              have cx := hI.cell (k0.out)
              go_wp2
              refine stq_v rfl Same.refl ?_
              first | (simp only [mkAct, List.foldl_cons, List.foldl_nil, List.setIfInBounds_toArray, List.set_cons_succ, List.set_cons_zero, upd, reduceIte, Nat.reduceEqDiff, Nat.reduceAdd, f0, str]; done) | (simp [mkAct, upd, f0, str, *]; done)
            · -- operation 2
              obtain ⟨f1, -⟩ := hp
              replace f1 : u 1 = (.bool true) := f1
              try simp only [f1, str]
              go_wp2
              refine stq_v rfl Same.refl ?_
              first | (simp only [mkAct, List.foldl_cons, List.foldl_nil, List.setIfInBounds_toArray, List.set_cons_succ, List.set_cons_zero, upd, reduceIte, Nat.reduceEqDiff, Nat.reduceAdd, f1, str]; done) | (simp [mkAct, upd, f1, str, *]; done)
            · -- operation 3
              obtain ⟨f2, -⟩ := hp
              replace f2 : u 2 = (.bool true) := f2
              try simp only [f2, str]
              go_wp2
              refine stq_v rfl Same.refl ?_
              first | (simp only [mkAct, List.foldl_cons, List.foldl_nil, List.setIfInBounds_toArray, List.set_cons_succ, List.set_cons_zero, upd, reduceIte, Nat.reduceEqDiff, Nat.reduceAdd, f2, str]; done) | (simp [mkAct, upd, f2, str, *]; done)
            · -- operation 4
              obtain ⟨f3, f2, -⟩ := hp
              replace f3 : u 3 = (.pointer (some ⟨wr.heap.size, 1, none⟩)) := f3
              replace f2 : u 2 = (.bool true) := f2
              try simp only [f3, f2, str]
              go_wp2_with (refine load_mid rfl _ _ rfl wr.heap.size 1 rfl s.bat.cells _ (hI.range k1.out) Try.underlying26 rfl hinfb.out ?_)
              refine stq_v rfl Same.refl ?_
              first | (simp only [mkAct, List.foldl_cons, List.foldl_nil, List.setIfInBounds_toArray, List.set_cons_succ, List.set_cons_zero, upd, reduceIte, Nat.reduceEqDiff, Nat.reduceAdd, f3, f2, str]; done) | (simp [mkAct, upd, f3, f2, str, *]; done)
            · -- operation 5
              obtain ⟨f4, -, f2, -⟩ := hp
              replace f4 : u 4 = (.agg s.bat.cells.toArray) := f4
              replace f2 : u 2 = (.bool true) := f2
              try simp only [f4, f2, str]
              go_wp2_with fail
              refine (hdig.out _ (BatV.same hbat.out (hw2.out.trans (hw5.out.trans hI)))).mono ?_
              rintro e w1 ⟨rfl, hs'⟩
              go_wp2
              refine stq_v rfl hs' ?_
              first | (simp only [mkAct, List.foldl_cons, List.foldl_nil, List.setIfInBounds_toArray, List.set_cons_succ, List.set_cons_zero, upd, reduceIte, Nat.reduceEqDiff, Nat.reduceAdd, f4, f2, str]; done) | (simp [mkAct, upd, f4, f2, str, *]; done)
            · -- operation 6
              obtain ⟨f2, -⟩ := hp
              replace f2 : u 2 = (.bool true) := f2
              try simp only [f2, str]
              go_wp2_with (refine load_row rfl _ _ rfl w0.heap.size rfl _ _ _ _ ((hw5.out.trans hI).at r1.out) Try.underlying28 rfl hinfD.out ?_)
              refine stq_v rfl Same.refl ?_
              first | (simp only [mkAct, List.foldl_cons, List.foldl_nil, List.setIfInBounds_toArray, List.set_cons_succ, List.set_cons_zero, upd, reduceIte, Nat.reduceEqDiff, Nat.reduceAdd, f2, str]; done) | (simp [mkAct, upd, f2, str, *]; done)
            · -- operation 7
              obtain ⟨f5, f6, f2, -⟩ := hp
              replace f5 : u 5 = (.agg (bv D).toArray) := f5
              replace f6 : u 6 = (.agg (bv d).toArray) := f6
              replace f2 : u 2 = (.bool true) := f2
              try simp only [f5, f6, f2, str]
              have hx := hqe.out
              have hg := hgd.out
              go_wp2
              refine stq_v rfl Same.refl ?_
              first | (simp only [mkAct, List.foldl_cons, List.foldl_nil, List.setIfInBounds_toArray, List.set_cons_succ, List.set_cons_zero, upd, reduceIte, Nat.reduceEqDiff, Nat.reduceAdd, f5, f6, f2, str]; done) | (simp [mkAct, upd, f5, f6, f2, str, *]; done)
            · -- operation 8
              obtain ⟨f2, f7, -⟩ := hp
              replace f2 : u 2 = (.bool true) := f2
              replace f7 : u 7 = (.bool q) := f7
              try simp only [f2, f7, str]
              go_wp2
              refine stq_v rfl Same.refl ?_
              first | (simp only [mkAct, List.foldl_cons, List.foldl_nil, List.setIfInBounds_toArray, List.set_cons_succ, List.set_cons_zero, upd, reduceIte, Nat.reduceEqDiff, Nat.reduceAdd, f2, f7, str]; done) | (simp [mkAct, upd, f2, f7, str, *]; done)
          · intro u wx hI hR
            obtain ⟨r0, r1, r2, r3, r4, r5, r6, r7, r8, -⟩ := hR
            replace r0 : u 0 = (.pointer (some ⟨wr.heap.size, 0, none⟩)) := r0
            replace r1 : u 1 = (.bool true) := r1
            replace r2 : u 2 = (.bool true) := r2
            replace r3 : u 3 = (.pointer (some ⟨wr.heap.size, 1, none⟩)) := r3
            replace r4 : u 4 = (.agg s.bat.cells.toArray) := r4
            replace r5 : u 5 = (.agg (bv D).toArray) := r5
            replace r6 : u 6 = (.agg (bv d).toArray) := r6
            replace r7 : u 7 = (.bool q) := r7
            replace r8 : u 8 = (.bool q) := r8
            simp only [mkAct, List.foldl_cons, List.foldl_nil, List.setIfInBounds_toArray, List.set_cons_succ, List.set_cons_zero]
            try simp only [str, r0, r1, r2, r3, r4, r5, r6, r7, r8]
            go_wp2
            go_meet
            exact ⟨rfl, hI⟩
      case rest =>
        obtain ⟨rfl, hI⟩ := hcut
        obtain ⟨G, hG⟩ : ∃ G, G = (i && q) := ⟨_, rfl⟩
        rw [← hG] at hnext ⊢
        clear hG hqe
        have hw6 := Lib.hid (hw5.out.trans hI)
        have k16 := Lib.hid (hI.range k1.out)
        clear hI hw5 k0 k1
        cases G
        · have hn := Lib.hid (hnext.out.1 rfl)
          clear hnext
          go_wp2
          go_roundw
          case rel => exact ⟨.inr (.inr (.inl ⟨by go_num, hn.out⟩)), hw6.out⟩
          case measure => simp [intOf]
        · have hn := Lib.hid (hnext.out.2 rfl)
          clear hnext
          have r26 := Lib.hid (hw6.out.at r2.out)
          go_wp2_with (first | (refine load_mid rfl _ _ rfl wr.heap.size 1 rfl s.bat.cells _ k16.out Try.underlying26 rfl hinfb.out ?_) | (refine store_row rfl _ _ _ rfl w1.heap.size s.bat.cells.toArray rfl rfl _ _ r26.out (bat_info _) rfl (bat_one _) ?_; intro w9 hb9 hk9; replace hb9 := Lib.hid hb9; replace hk9 := Lib.hid hk9))
          refine bodyPost_ret (v := .tuple #[.agg s.bat.cells.toArray, .bool true]) (results_row2 (p := 4) (q := 5) (ty := 26) rfl _ _ w1.heap.size _ _ _ _ _ rfl rfl hb9.out Try.underlying26 rfl (bat_info _)) rfl ?_
          exact ⟨by rw [hn.out], (hw2.out.trans hw6.out).keep hk9.out (fun x hx hv => by omega)⟩
    · have hdig := Lib.hid (fun w h => bdig_any s.hbat w h h3.out)
      have hnext := m2.out hK
      obtain ⟨D, hD⟩ : ∃ D, D = bDig s.hbat := ⟨_, rfl⟩
      rw [show batDig s.hbat.noop s.hbat.reqs = D from hD.symm] at hdig
      have hDl : D.length = 32 := by rw [hD]; exact bDig_length _
      obtain ⟨q, hq⟩ : ∃ q, q = (D == d) := ⟨_, rfl⟩
      have hqd : decide (bDig s.hbat = d) = q := by rw [hq, ← hD, Bool.eq_iff_iff]; simp
      have hqe := fun w => dig_eql D d hDl hd w
      rw [← hq] at hqe
      have hgd := dig_guard
      have hinfk : (Try.prog.info? 169).map (·.size) = some (kc s.holds s.hbat).toArray.size := by show _ = some 3; kernel_rfl
      have hinfb := bat_infoL s.hbat
      have hbat := hb2.out
      obtain ⟨i, hi⟩ : ∃ i, i = s.holds := ⟨_, rfl⟩
      rw [← hi] at hinfk hnext ⊢
      rw [hqd] at hnext
      clear hD hDl hq hqd hi
      replace hqe := Lib.hid hqe
      replace hgd := Lib.hid hgd
      replace hinfk := Lib.hid hinfk
      replace hinfb := Lib.hid hinfb
      replace hbat := Lib.hid hbat
      replace hnext := Lib.hid hnext
      replace hs := Lib.hid hs
      go_upto_region 4 with (first | (refine index_const (ty := 170) (.agg (kc i s.hbat).toArray) rfl rfl (by kernel_rfl) ?_) | (refine alloc_new rfl 169 rfl #[.bool false, .bool false, .slice none 0 0] (by kernel_rfl) ?_; intro w4 hz hs4; have l4 := blk_lt hz; replace hz := Lib.hid hz; replace hs4 := Lib.hid hs4) | (refine store_row rfl _ _ _ rfl wr.heap.size (kc i s.hbat).toArray rfl rfl _ _ hz.out hinfk.out rfl (by kernel_rfl) ?_; intro w5 rk hk5; replace rk := Lib.hid rk; replace hk5 := Lib.hid hk5))
      have hs5 : Same wr w5 := hs4.out.keep hk5.out (fun x hx hv => by omega)
      have hw5 := Lib.hid (hs.out.trans hs5)
      clear hs5 hk5 hs4 hz hs
      have k0 : w5.cell? ⟨wr.heap.size, 0, none⟩ = some (.bool i) := by rw [blk_cell rk.out]; rfl
      have k1 : w5.rangeAt wr.heap.size 1 s.hbat.cells := part_range (pre := [.bool i]) (post := []) (by rw [List.append_nil]; exact rk.out) rfl
      replace k0 := Lib.hid k0
      replace k1 := Lib.hid k1
      go_simp
      go_cut [37] (fun v wx => v = .bool (i && q) ∧ Same w5 wx)
      case first =>
        cases i
        · skip
          refine wp_region_facts (by kernel_rfl) [(29, 0), (30, 1), (31, 2), (32, 3), (33, 4), (34, 5), (35, 6), (36, 7), (37, 8)] Same (Same _) [isV (.pointer (some ⟨wr.heap.size, 0, none⟩)), isV (.bool false), isV (.bool false), isV undef, isV undef, isV undef, isV undef, isV undef, isV (.bool false)] Same.refl.drew (fun _ _ h k => h.trans k) (by simp [isV_stable, isB_stable, isAny_stable]) (by decide) (by decide) ?_ ?_
          · refine ⟨?_, ?_, ?_, ?_, ?_, ?_, ?_, ?_, ?_, trivial⟩
            all_goals (intro u wx hI hp; simp only [mkAct, List.foldl_cons, List.foldl_nil, List.setIfInBounds_toArray, List.set_cons_succ, List.set_cons_zero])
            · -- operation 0
              go_wp2
              refine stq_v rfl Same.refl ?_
              first | (simp only [mkAct, List.foldl_cons, List.foldl_nil, List.setIfInBounds_toArray, List.set_cons_succ, List.set_cons_zero, upd, reduceIte, Nat.reduceEqDiff, Nat.reduceAdd, str]; done) | (simp [mkAct, upd, str, *]; done)
            · -- operation 1
              obtain ⟨f0, -⟩ := hp
              replace f0 : u 0 = (.pointer (some ⟨wr.heap.size, 0, none⟩)) := f0
              try simp only [f0, str]
              have cx := hI.cell (k0.out)
              go_wp2
              refine stq_v rfl Same.refl ?_
              first | (simp only [mkAct, List.foldl_cons, List.foldl_nil, List.setIfInBounds_toArray, List.set_cons_succ, List.set_cons_zero, upd, reduceIte, Nat.reduceEqDiff, Nat.reduceAdd, f0, str]; done) | (simp [mkAct, upd, f0, str, *]; done)
            · -- operation 2
              obtain ⟨f1, -⟩ := hp
              replace f1 : u 1 = (.bool false) := f1
              try simp only [f1, str]
              go_wp2
              refine stq_v rfl Same.refl ?_
              first | (simp only [mkAct, List.foldl_cons, List.foldl_nil, List.setIfInBounds_toArray, List.set_cons_succ, List.set_cons_zero, upd, reduceIte, Nat.reduceEqDiff, Nat.reduceAdd, f1, str]; done) | (simp [mkAct, upd, f1, str, *]; done)
            · -- operation 3
              obtain ⟨f2, -⟩ := hp
              replace f2 : u 2 = (.bool false) := f2
              try simp only [f2, str]
              go_wp2
              refine stq_v rfl Same.refl ?_
              first | (simp only [mkAct, List.foldl_cons, List.foldl_nil, List.setIfInBounds_toArray, List.set_cons_succ, List.set_cons_zero, upd, reduceIte, Nat.reduceEqDiff, Nat.reduceAdd, f2, str]; done) | (simp [mkAct, upd, f2, str, *]; done)
            · -- operation 4
              obtain ⟨f3, f2, -⟩ := hp
              replace f3 : u 3 = undef := f3
              replace f2 : u 2 = (.bool false) := f2
              try simp only [f3, f2, str]
              go_wp2
              refine stq_v rfl Same.refl ?_
              first | (simp only [mkAct, List.foldl_cons, List.foldl_nil, List.setIfInBounds_toArray, List.set_cons_succ, List.set_cons_zero, upd, reduceIte, Nat.reduceEqDiff, Nat.reduceAdd, f3, f2, str]; done) | (simp [mkAct, upd, f3, f2, str, *]; done)
            · -- operation 5
              obtain ⟨f4, -, f2, -⟩ := hp
              replace f4 : u 4 = undef := f4
              replace f2 : u 2 = (.bool false) := f2
              try simp only [f4, f2, str]
              go_wp2
              refine stq_v rfl Same.refl ?_
              first | (simp only [mkAct, List.foldl_cons, List.foldl_nil, List.setIfInBounds_toArray, List.set_cons_succ, List.set_cons_zero, upd, reduceIte, Nat.reduceEqDiff, Nat.reduceAdd, f4, f2, str]; done) | (simp [mkAct, upd, f4, f2, str, *]; done)
            · -- operation 6
              obtain ⟨f2, -⟩ := hp
              replace f2 : u 2 = (.bool false) := f2
              try simp only [f2, str]
              go_wp2
              refine stq_v rfl Same.refl ?_
              first | (simp only [mkAct, List.foldl_cons, List.foldl_nil, List.setIfInBounds_toArray, List.set_cons_succ, List.set_cons_zero, upd, reduceIte, Nat.reduceEqDiff, Nat.reduceAdd, f2, str]; done) | (simp [mkAct, upd, f2, str, *]; done)
            · -- operation 7
              obtain ⟨f5, f6, f2, -⟩ := hp
              replace f5 : u 5 = undef := f5
              replace f6 : u 6 = undef := f6
              replace f2 : u 2 = (.bool false) := f2
              try simp only [f5, f6, f2, str]
              go_wp2
              refine stq_v rfl Same.refl ?_
              first | (simp only [mkAct, List.foldl_cons, List.foldl_nil, List.setIfInBounds_toArray, List.set_cons_succ, List.set_cons_zero, upd, reduceIte, Nat.reduceEqDiff, Nat.reduceAdd, f5, f6, f2, str]; done) | (simp [mkAct, upd, f5, f6, f2, str, *]; done)
            · -- operation 8
              obtain ⟨f2, f7, -⟩ := hp
              replace f2 : u 2 = (.bool false) := f2
              replace f7 : u 7 = undef := f7
              try simp only [f2, f7, str]
              go_wp2
              refine stq_v rfl Same.refl ?_
              first | (simp only [mkAct, List.foldl_cons, List.foldl_nil, List.setIfInBounds_toArray, List.set_cons_succ, List.set_cons_zero, upd, reduceIte, Nat.reduceEqDiff, Nat.reduceAdd, f2, f7, str]; done) | (simp [mkAct, upd, f2, f7, str, *]; done)
          · intro u wx hI hR
            obtain ⟨r0, r1, r2, r3, r4, r5, r6, r7, r8, -⟩ := hR
            replace r0 : u 0 = (.pointer (some ⟨wr.heap.size, 0, none⟩)) := r0
            replace r1 : u 1 = (.bool false) := r1
            replace r2 : u 2 = (.bool false) := r2
            replace r3 : u 3 = undef := r3
            replace r4 : u 4 = undef := r4
            replace r5 : u 5 = undef := r5
            replace r6 : u 6 = undef := r6
            replace r7 : u 7 = undef := r7
            replace r8 : u 8 = (.bool false) := r8
            simp only [mkAct, List.foldl_cons, List.foldl_nil, List.setIfInBounds_toArray, List.set_cons_succ, List.set_cons_zero]
            try simp only [str, r0, r1, r2, r3, r4, r5, r6, r7, r8]
            go_wp2
            go_meet
            exact ⟨rfl, hI⟩
        · skip
          refine wp_region_facts (by kernel_rfl) [(29, 0), (30, 1), (31, 2), (32, 3), (33, 4), (34, 5), (35, 6), (36, 7), (37, 8)] Same (Same _) [isV (.pointer (some ⟨wr.heap.size, 0, none⟩)), isV (.bool true), isV (.bool true), isV (.pointer (some ⟨wr.heap.size, 1, none⟩)), isV (.agg s.hbat.cells.toArray), isV (.agg (bv D).toArray), isV (.agg (bv d).toArray), isV (.bool q), isV (.bool q)] Same.refl.drew (fun _ _ h k => h.trans k) (by simp [isV_stable, isB_stable, isAny_stable]) (by decide) (by decide) ?_ ?_
          · refine ⟨?_, ?_, ?_, ?_, ?_, ?_, ?_, ?_, ?_, trivial⟩
            all_goals (intro u wx hI hp; simp only [mkAct, List.foldl_cons, List.foldl_nil, List.setIfInBounds_toArray, List.set_cons_succ, List.set_cons_zero])
            · -- operation 0
              go_wp2
              refine stq_v rfl Same.refl ?_
              first | (simp only [mkAct, List.foldl_cons, List.foldl_nil, List.setIfInBounds_toArray, List.set_cons_succ, List.set_cons_zero, upd, reduceIte, Nat.reduceEqDiff, Nat.reduceAdd, str]; done) | (simp [mkAct, upd, str, *]; done)
            · -- operation 1
              obtain ⟨f0, -⟩ := hp
              replace f0 : u 0 = (.pointer (some ⟨wr.heap.size, 0, none⟩)) := f0
              try simp only [f0, str]
              have cx := hI.cell (k0.out)
              go_wp2
              refine stq_v rfl Same.refl ?_
              first | (simp only [mkAct, List.foldl_cons, List.foldl_nil, List.setIfInBounds_toArray, List.set_cons_succ, List.set_cons_zero, upd, reduceIte, Nat.reduceEqDiff, Nat.reduceAdd, f0, str]; done) | (simp [mkAct, upd, f0, str, *]; done)
            · -- operation 2
              obtain ⟨f1, -⟩ := hp
              replace f1 : u 1 = (.bool true) := f1
              try simp only [f1, str]
              go_wp2
              refine stq_v rfl Same.refl ?_
              first | (simp only [mkAct, List.foldl_cons, List.foldl_nil, List.setIfInBounds_toArray, List.set_cons_succ, List.set_cons_zero, upd, reduceIte, Nat.reduceEqDiff, Nat.reduceAdd, f1, str]; done) | (simp [mkAct, upd, f1, str, *]; done)
            · -- operation 3
              obtain ⟨f2, -⟩ := hp
              replace f2 : u 2 = (.bool true) := f2
              try simp only [f2, str]
              go_wp2
              refine stq_v rfl Same.refl ?_
              first | (simp only [mkAct, List.foldl_cons, List.foldl_nil, List.setIfInBounds_toArray, List.set_cons_succ, List.set_cons_zero, upd, reduceIte, Nat.reduceEqDiff, Nat.reduceAdd, f2, str]; done) | (simp [mkAct, upd, f2, str, *]; done)
            · -- operation 4
              obtain ⟨f3, f2, -⟩ := hp
              replace f3 : u 3 = (.pointer (some ⟨wr.heap.size, 1, none⟩)) := f3
              replace f2 : u 2 = (.bool true) := f2
              try simp only [f3, f2, str]
              go_wp2_with (refine load_mid rfl _ _ rfl wr.heap.size 1 rfl s.hbat.cells _ (hI.range k1.out) Try.underlying26 rfl hinfb.out ?_)
              refine stq_v rfl Same.refl ?_
              first | (simp only [mkAct, List.foldl_cons, List.foldl_nil, List.setIfInBounds_toArray, List.set_cons_succ, List.set_cons_zero, upd, reduceIte, Nat.reduceEqDiff, Nat.reduceAdd, f3, f2, str]; done) | (simp [mkAct, upd, f3, f2, str, *]; done)
            · -- operation 5
              obtain ⟨f4, -, f2, -⟩ := hp
              replace f4 : u 4 = (.agg s.hbat.cells.toArray) := f4
              replace f2 : u 2 = (.bool true) := f2
              try simp only [f4, f2, str]
              go_wp2_with fail
              refine (hdig.out _ (BatV.same hbat.out (hw2.out.trans (hw5.out.trans hI)))).mono ?_
              rintro e w1 ⟨rfl, hs'⟩
              go_wp2
              refine stq_v rfl hs' ?_
              first | (simp only [mkAct, List.foldl_cons, List.foldl_nil, List.setIfInBounds_toArray, List.set_cons_succ, List.set_cons_zero, upd, reduceIte, Nat.reduceEqDiff, Nat.reduceAdd, f4, f2, str]; done) | (simp [mkAct, upd, f4, f2, str, *]; done)
            · -- operation 6
              obtain ⟨f2, -⟩ := hp
              replace f2 : u 2 = (.bool true) := f2
              try simp only [f2, str]
              go_wp2_with (refine load_row rfl _ _ rfl w0.heap.size rfl _ _ _ _ ((hw5.out.trans hI).at r1.out) Try.underlying28 rfl hinfD.out ?_)
              refine stq_v rfl Same.refl ?_
              first | (simp only [mkAct, List.foldl_cons, List.foldl_nil, List.setIfInBounds_toArray, List.set_cons_succ, List.set_cons_zero, upd, reduceIte, Nat.reduceEqDiff, Nat.reduceAdd, f2, str]; done) | (simp [mkAct, upd, f2, str, *]; done)
            · -- operation 7
              obtain ⟨f5, f6, f2, -⟩ := hp
              replace f5 : u 5 = (.agg (bv D).toArray) := f5
              replace f6 : u 6 = (.agg (bv d).toArray) := f6
              replace f2 : u 2 = (.bool true) := f2
              try simp only [f5, f6, f2, str]
              have hx := hqe.out
              have hg := hgd.out
              go_wp2
              refine stq_v rfl Same.refl ?_
              first | (simp only [mkAct, List.foldl_cons, List.foldl_nil, List.setIfInBounds_toArray, List.set_cons_succ, List.set_cons_zero, upd, reduceIte, Nat.reduceEqDiff, Nat.reduceAdd, f5, f6, f2, str]; done) | (simp [mkAct, upd, f5, f6, f2, str, *]; done)
            · -- operation 8
              obtain ⟨f2, f7, -⟩ := hp
              replace f2 : u 2 = (.bool true) := f2
              replace f7 : u 7 = (.bool q) := f7
              try simp only [f2, f7, str]
              go_wp2
              refine stq_v rfl Same.refl ?_
              first | (simp only [mkAct, List.foldl_cons, List.foldl_nil, List.setIfInBounds_toArray, List.set_cons_succ, List.set_cons_zero, upd, reduceIte, Nat.reduceEqDiff, Nat.reduceAdd, f2, f7, str]; done) | (simp [mkAct, upd, f2, f7, str, *]; done)
          · intro u wx hI hR
            obtain ⟨r0, r1, r2, r3, r4, r5, r6, r7, r8, -⟩ := hR
            replace r0 : u 0 = (.pointer (some ⟨wr.heap.size, 0, none⟩)) := r0
            replace r1 : u 1 = (.bool true) := r1
            replace r2 : u 2 = (.bool true) := r2
            replace r3 : u 3 = (.pointer (some ⟨wr.heap.size, 1, none⟩)) := r3
            replace r4 : u 4 = (.agg s.hbat.cells.toArray) := r4
            replace r5 : u 5 = (.agg (bv D).toArray) := r5
            replace r6 : u 6 = (.agg (bv d).toArray) := r6
            replace r7 : u 7 = (.bool q) := r7
            replace r8 : u 8 = (.bool q) := r8
            simp only [mkAct, List.foldl_cons, List.foldl_nil, List.setIfInBounds_toArray, List.set_cons_succ, List.set_cons_zero]
            try simp only [str, r0, r1, r2, r3, r4, r5, r6, r7, r8]
            go_wp2
            go_meet
            exact ⟨rfl, hI⟩
      case rest =>
        obtain ⟨rfl, hI⟩ := hcut
        obtain ⟨G, hG⟩ : ∃ G, G = (i && q) := ⟨_, rfl⟩
        rw [← hG] at hnext ⊢
        clear hG hqe
        have hw6 := Lib.hid (hw5.out.trans hI)
        have k16 := Lib.hid (hI.range k1.out)
        clear hI hw5 k0 k1
        cases G
        · have hn := Lib.hid (hnext.out.1 rfl)
          clear hnext
          go_wp2
          go_roundw
          case rel => exact ⟨.inr (.inr (.inr ⟨by go_num, hn.out⟩)), hw6.out⟩
          case measure => simp [intOf]
        · have hn := Lib.hid (hnext.out.2 rfl)
          clear hnext
          have r26 := Lib.hid (hw6.out.at r2.out)
          go_wp2_with (first | (refine load_mid rfl _ _ rfl wr.heap.size 1 rfl s.hbat.cells _ k16.out Try.underlying26 rfl hinfb.out ?_) | (refine store_row rfl _ _ _ rfl w1.heap.size s.hbat.cells.toArray rfl rfl _ _ r26.out (bat_info _) rfl (bat_one _) ?_; intro w9 hb9 hk9; replace hb9 := Lib.hid hb9; replace hk9 := Lib.hid hk9))
          refine bodyPost_ret (v := .tuple #[.agg s.hbat.cells.toArray, .bool true]) (results_row2 (p := 4) (q := 5) (ty := 26) rfl _ _ w1.heap.size _ _ _ _ _ rfl rfl hb9.out Try.underlying26 rfl (bat_info _)) rfl ?_
          exact ⟨by rw [hn.out], (hw2.out.trans hw6.out).keep hk9.out (fun x hx hv => by omega)⟩
    · have hRe := Lib.hid (hend.out hK)
      clear m0 m1 m2 hend
      replace hs := Lib.hid hs
      have r26 := Lib.hid (hs.out.at r2.out)
      go_wp2_with (first | (refine build_const (ty := 26) (.agg zeroBat.cells.toArray) rfl rfl (by kernel_rfl) ?_) | (refine store_row rfl _ _ _ rfl w1.heap.size zeroBat.cells.toArray rfl rfl _ _ r26.out hinfZ.out rfl (bat_one _) ?_; intro w9 hb9 hk9; replace hb9 := Lib.hid hb9; replace hk9 := Lib.hid hk9))
      refine bodyPost_ret (v := .tuple #[.agg zeroBat.cells.toArray, .bool false]) (results_row2 (p := 4) (q := 5) (ty := 26) rfl _ _ w1.heap.size _ _ _ _ _ rfl rfl hb9.out Try.underlying26 rfl hinfZ.out) rfl ?_
      exact ⟨by rw [hRe.out], (hw2.out.trans hs.out).keep hk9.out (fun x hx hv => by omega)⟩
end Go.Proofs.Ytmacgmmjgdmleaa
namespace Go.Proofs.Ytmacgmmjgdmleaa
open Go Go.RowKit
set_option linter.unusedSimpArgs false
set_option linter.unusedVariables false

set_option maxRecDepth 100000
def vP : List (Nat × Nat) := [(0, 1), (1, 1), (2, 1), (3, 1), (4, 32)]
theorem vote_built1 (k v : Int) (d : List UInt8) (h : d.length = 32) : Try.prog.built 30 [(0, .int .i64 k), (2, .int .i64 v), (4, .agg (bv d).toArray)] = some (VoteV.cells ⟨k, 0, v, 0, d⟩).toArray := by
  refine built_struct (z := .agg zeroVote.cells.toArray) (places := vP) (by kernel_rfl) Try.underlying30 (by kernel_rfl) ?_
  have e0 := fill_step (place := (vP.toArray[·]?)) (i := 0) (v := .int .i64 k) (A := [.int .i64 k]) (pre := []) (mid := [.int .i64 0]) (post := [.int .i64 0, .int .i64 0, .int .i64 0] ++ bv (List.replicate 32 0)) (rest := [(2, .int .i64 v), (4, .agg (bv d).toArray)]) rfl rfl rfl
  have e1 := fill_step (place := (vP.toArray[·]?)) (i := 2) (v := .int .i64 v) (A := [.int .i64 v]) (pre := [.int .i64 k, .int .i64 0]) (mid := [.int .i64 0]) (post := [.int .i64 0] ++ bv (List.replicate 32 0)) (rest := [(4, .agg (bv d).toArray)]) rfl rfl rfl
  have e2 := fill_step (place := (vP.toArray[·]?)) (i := 4) (v := .agg (bv d).toArray) (A := bv d) (pre := [.int .i64 k, .int .i64 0, .int .i64 v, .int .i64 0]) (mid := bv (List.replicate 32 0)) (post := []) (rest := []) (by rw [bv_length, h]; rfl) rfl (by rw [bv_length, bv_length, h]; rfl)
  refine e0.trans (e1.trans ?_)
  rw [List.append_nil, List.append_nil] at e2
  exact e2.trans (by simp [VoteV.cells, Instr.fill])
theorem vote_built2 (k : Int) (d : List UInt8) (h : d.length = 32) : Try.prog.built 30 [(0, .int .i64 k), (4, .agg (bv d).toArray)] = some (VoteV.cells ⟨k, 0, 0, 0, d⟩).toArray := by
  refine built_struct (z := .agg zeroVote.cells.toArray) (places := vP) (by kernel_rfl) Try.underlying30 (by kernel_rfl) ?_
  have e0 := fill_step (place := (vP.toArray[·]?)) (i := 0) (v := .int .i64 k) (A := [.int .i64 k]) (pre := []) (mid := [.int .i64 0]) (post := [.int .i64 0, .int .i64 0, .int .i64 0] ++ bv (List.replicate 32 0)) (rest := [(4, .agg (bv d).toArray)]) rfl rfl rfl
  have e2 := fill_step (place := (vP.toArray[·]?)) (i := 4) (v := .agg (bv d).toArray) (A := bv d) (pre := [.int .i64 k, .int .i64 0, .int .i64 0, .int .i64 0]) (mid := bv (List.replicate 32 0)) (post := []) (rest := []) (by rw [bv_length, h]; rfl) rfl (by rw [bv_length, bv_length, h]; rfl)
  refine e0.trans ?_
  rw [List.append_nil, List.append_nil] at e2
  exact e2.trans (by simp [VoteV.cells, Instr.fill])
theorem cert_built (v : VoteV) (h : v.wf) : Try.prog.built 33 [(0, .agg v.cells.toArray)] = some (CertV.cells ⟨v, none, 0, []⟩).toArray := by
  refine built_struct (z := .agg zeroCert.cells.toArray) (places := [(0, 36), (36, 1)]) (by kernel_rfl) Try.underlying33 (by kernel_rfl) ?_
  have e0 := fill_step (place := (([(0, 36), (36, 1)] : List (Nat × Nat)).toArray[·]?)) (i := 0) (v := .agg v.cells.toArray) (A := v.cells) (pre := []) (mid := zeroVote.cells) (post := [.slice none 0 0]) (rest := []) (by rw [VoteV.len h]; rfl) rfl (by rw [VoteV.len h]; rfl)
  exact e0.trans (by simp [CertV.cells, Instr.fill])
def exD : List UInt8 := bDig noneBat
def exS : SlotV := { zeroSlot with is := true, view := 0, bat := noneBat }
def exC (v : Int) : CertV := ⟨⟨1, 0, v, 0, exD⟩, none, 0, []⟩
def exT : SlotV := { exS with holds := true, hbat := noneBat, hcert := exC 0 }
theorem exC_wf (v : Int) (h : (Lit.int .i64 v).wf = true) : (exC v).vote.wf := ⟨bDig_length _, (by show (Lit.int .i64 1).wf = true; decide), (by show (Lit.int .i64 0).wf = true; decide), h, (by show (Lit.int .i64 0).wf = true; decide)⟩
theorem exC_at (v : Int) (h : (Lit.int .i64 v).wf = true) (w : World) : (exC v).at w := ⟨exC_wf v h, Sl.none w 17, fun s hs => by cases hs⟩
theorem exS_at (w : World) : exS.at w := ⟨by decide, by decide, noneBat_at w, zeroBat_at' w, zeroCert_at w, zeroBat_at' w, zeroCert_at w⟩
theorem exS_wf : exS.wf := zeroSlot_wf
theorem exT_wf : exT.wf := ⟨exC_wf 0 (by decide), zeroVote_wf⟩
theorem ex_acc : zeroSlot.accept 0 noneBat = (exS, 0) := by
  unfold SlotV.accept
  rw [if_neg (by simp [zeroSlot]), if_neg (by simp [zeroSlot])]
  rfl
theorem ex_hold1 : exS.hold (exC 1) = (zeroSlot, 180) := by
  unfold SlotV.hold
  rw [if_neg (by simp [exC]), if_pos (by simp [exC, exS])]
theorem ex_hold0 : exS.hold (exC 0) = (exT, 0) := by
  unfold SlotV.hold
  rw [if_neg (by simp [exC]), if_neg (by simp [exC, exS]), if_neg (by simp [exC, exS, exD]), if_neg (by simp [exS, zeroSlot])]
  rfl
set_option maxRecDepth 100000 in
set_option maxHeartbeats 6400000 in
theorem lives18 (w : World) : Calls Try.prog 14 #[] w fun e w' => e = .returned (.bool true) ∧ Same w w' := by
  have hN := Lib.hid none_any
  have hA : ∀ w, Calls Try.prog 16 #[.agg zeroSlot.cells.toArray, .int .i64 0, .agg #[.bool true, .slice none 0 0]] w fun e w' => e = .returned (.tuple #[.agg exS.cells.toArray, .int .i64 0]) ∧ Same w w' := by
    intro w
    have := acc_any zeroSlot 0 noneBat w (zeroSlot_at w) (noneBat_at w) zeroBat_small noneBat_small
    rw [ex_acc] at this
    exact this
  have hD : ∀ w, Calls Try.prog 88 #[.agg #[.bool true, .slice none 0 0]] w fun e w' => e = .returned (.agg (bv exD).toArray) ∧ Same w w' := fun w => bdig_any noneBat w (noneBat_at w) noneBat_small
  have hH1 : ∀ w, Calls Try.prog 17 #[.agg exS.cells.toArray, .agg (exC 1).cells.toArray] w fun e w' => e = .returned (.tuple #[.agg zeroSlot.cells.toArray, .int .i64 180]) ∧ Same w w' := by
    intro w
    have := hold_any exS (exC 1) w (exS_at w) (exC_at 1 (by decide) w) noneBat_small
    rw [ex_hold1] at this
    exact this
  have hH0 : ∀ w, Calls Try.prog 17 #[.agg exS.cells.toArray, .agg (exC 0).cells.toArray] w fun e w' => e = .returned (.tuple #[.agg exT.cells.toArray, .int .i64 0]) ∧ Same w w' := by
    intro w
    have := hold_any exS (exC 0) w (exS_at w) (exC_at 0 (by decide) w) noneBat_small
    rw [ex_hold0] at this
    exact this
  have hDl : exD.length = 32 := bDig_length _
  have hV1 := vote_built1 1 1 exD hDl
  have hV0 := vote_built2 1 exD hDl
  have hC1 := cert_built ⟨1, 0, 1, 0, exD⟩ (exC_wf 1 (by decide))
  have hC0 := cert_built ⟨1, 0, 0, 0, exD⟩ (exC_wf 0 (by decide))
  have hinfZ := Lib.hid (slot_info zeroSlot_wf)
  have hinfS := Lib.hid (slot_info exS_wf)
  have hinfT := Lib.hid (slot_info exT_wf)
  have hinfd := Lib.hid (dig_info hDl)
  have szS := slot_size zeroSlot_wf exS_wf
  have szT := slot_size exS_wf exT_wf
  have oS := slot_one exS
  have oT := slot_one exT
  have oZ := slot_one zeroSlot
  have cT : ∀ (w : World) (b T : Nat), w.heap[b]? = some (.cells exT.cells.toArray T (0, 0)) → w.cell? ⟨b, 43, none⟩ = some (.bool true) ∧ w.cell? ⟨b, 4, none⟩ = some (.bool true) := by
    intro w b T h
    exact ⟨sl_holds h exT_wf, sl_hbat h 0 _ rfl⟩
  obtain ⟨S, hS⟩ : ∃ S, S = exS.cells.toArray := ⟨_, rfl⟩
  obtain ⟨T, hT⟩ : ∃ S, S = exT.cells.toArray := ⟨_, rfl⟩
  have hZ0 : zeroSlot.cells.toArray = Try.zeroCells42 := by kernel_rfl
  obtain ⟨D, hDe⟩ : ∃ S, S = (bv exD).toArray := ⟨_, rfl⟩
  obtain ⟨C1, hC1e⟩ : ∃ S, S = (exC 1).cells.toArray := ⟨_, rfl⟩
  obtain ⟨C0, hC0e⟩ : ∃ S, S = (exC 0).cells.toArray := ⟨_, rfl⟩
  obtain ⟨V1, hV1e⟩ : ∃ S, S = (VoteV.cells ⟨1, 0, 1, 0, exD⟩).toArray := ⟨_, rfl⟩
  obtain ⟨V0, hV0e⟩ : ∃ S, S = (VoteV.cells ⟨1, 0, 0, 0, exD⟩).toArray := ⟨_, rfl⟩
  have szD : (bv (List.replicate 32 0)).toArray.size = D.size := by rw [hDe, List.size_toArray, List.size_toArray, bv_length, bv_length, hDl]; rfl
  have oD : D.all (·.oneCell') = true := by rw [hDe]; exact all_of bv_cell
  rw [← hS] at hA hH1 hH0 hinfS szS szT oS
  rw [← hT] at hH0 hinfT szT oT
  rw [hZ0] at hA hH1 hinfZ szS oZ
  rw [← hDe] at hD hinfd hV1 hV0
  rw [show (exC 1).cells.toArray = C1 from hC1e.symm] at hH1
  rw [show (exC 0).cells.toArray = C0 from hC0e.symm] at hH0
  rw [← hV1e] at hV1 hC1
  rw [← hV0e] at hV0 hC0
  rw [show (CertV.cells ⟨⟨1, 0, 1, 0, exD⟩, none, 0, []⟩).toArray = C1 from hC1e.symm] at hC1
  rw [show (CertV.cells ⟨⟨1, 0, 0, 0, exD⟩, none, 0, []⟩).toArray = C0 from hC0e.symm] at hC0
  simp only [← hT] at cT
  replace szS := Lib.hid szS
  replace szT := Lib.hid szT
  replace oS := Lib.hid oS
  replace oT := Lib.hid oT
  replace oZ := Lib.hid oZ
  replace szD := Lib.hid szD
  replace oD := Lib.hid oD
  replace hA := Lib.hid hA
  replace hD := Lib.hid hD
  replace hH1 := Lib.hid hH1
  replace hH0 := Lib.hid hH0
  replace hV1 := Lib.hid hV1
  replace hV0 := Lib.hid hV0
  replace hC1 := Lib.hid hC1
  replace hC0 := Lib.hid hC0
  replace cT := Lib.hid cT
  clear hDl hS hT hDe hC1e hC0e hV1e hV0e hZ0
  go_enter Try.func14, Try.ntmps14
  go_wp2_with fail
  refine (hN.out _).mono ?_
  rintro e w1 ⟨rfl, hs1⟩
  replace hs1 := Lib.hid hs1
  go_wp2_with fail
  refine (hA.out _).mono ?_
  rintro e w2 ⟨rfl, hs2⟩
  have hw2 := Lib.hid (hs1.out.trans hs2)
  have z2 := hw2.out.size
  clear hs1 hs2
  go_upto_region 2 with (first | (refine alloc_new rfl 42 rfl Try.zeroCells42 (by kernel_rfl) ?_; intro w3 hz hs3; have l3 := blk_lt hz; replace hz := Lib.hid hz; replace hs3 := Lib.hid hs3) | (refine store_row rfl _ _ _ rfl w2.heap.size S rfl rfl _ _ hz.out hinfS.out szS.out oS.out ?_; intro w4 r1 hk4; replace r1 := Lib.hid r1; replace hk4 := Lib.hid hk4))
  have hs4 : Same w2 w4 := hs3.out.keep hk4.out (fun x hx hv => by omega)
  have hw4 := Lib.hid (hw2.out.trans hs4)
  have l4 := blk_lt r1.out
  clear hs3 hk4 hs4 hz hw2
  go_wp2_with fail
  refine (hN.out _).mono ?_
  rintro e w5 ⟨rfl, hs5⟩
  have hw5 := Lib.hid (hw4.out.trans hs5)
  have r15 := Lib.hid (hs5.at r1.out)
  clear hs5 hw4 r1
  go_wp2_with fail
  refine (hD.out _).mono ?_
  rintro e w6 ⟨rfl, hs6⟩
  have hw6 := Lib.hid (hw5.out.trans hs6)
  have r16 := Lib.hid (hs6.at r15.out)
  clear hs6 hw5 r15
  go_upto_region 3 with (first | (refine alloc_new rfl 28 rfl (bv (List.replicate 32 0)).toArray (by kernel_rfl) ?_; intro w7 hz hs7; have l7 := blk_lt hz; replace hz := Lib.hid hz; replace hs7 := Lib.hid hs7) | (refine store_row rfl _ _ _ rfl w6.heap.size D rfl rfl _ _ hz.out hinfd.out szD.out oD.out ?_; intro w8 rd hk8; replace rd := Lib.hid rd; replace hk8 := Lib.hid hk8))
  have hs8 : Same w6 w8 := hs7.out.keep hk8.out (fun x hx hv => by omega)
  have hw8 := Lib.hid (hw6.out.trans hs8)
  have r18 := Lib.hid (hs8.at r16.out)
  have l8 := blk_lt r16.out
  clear hs7 hk8 hs8 hz hw6 r16
  go_wp2_with (first | (refine load_row rfl _ _ rfl w2.heap.size rfl _ _ _ _ r18.out Try.underlying42 rfl hinfS.out ?_) | (refine load_row rfl _ _ rfl w6.heap.size rfl _ _ _ _ rd.out Try.underlying28 rfl hinfd.out ?_) | (refine build_struct rfl _ _ rfl [(0, .int .i64 1), (2, .int .i64 1), (4, .agg D)] rfl _ hV1.out ?_) | (refine build_struct rfl _ _ rfl [(0, .agg V1)] rfl _ hC1.out ?_))
  refine (hH1.out _).mono ?_
  rintro e w9 ⟨rfl, hs9⟩
  have hw9 := Lib.hid (hw8.out.trans hs9)
  have r19 := Lib.hid (hs9.at r18.out)
  have rd9 := Lib.hid (hs9.at rd.out)
  have z9 := hs9.size
  clear hs9 hw8 r18 rd
  go_upto_region 4 with (first | (refine alloc_new rfl 42 rfl Try.zeroCells42 (by kernel_rfl) ?_; intro w10 hz hs10; have l10 := blk_lt hz; replace hz := Lib.hid hz; replace hs10 := Lib.hid hs10) | (refine store_row rfl _ _ _ rfl w9.heap.size Try.zeroCells42 rfl rfl _ _ hz.out hinfZ.out rfl oZ.out ?_; intro w11 r2 hk11; replace hk11 := Lib.hid hk11; clear r2))
  have hs11 : Same w9 w11 := hs10.out.keep hk11.out (fun x hx hv => by omega)
  have hw11 := Lib.hid (hw9.out.trans hs11)
  have r111 := Lib.hid (hs11.at r19.out)
  have rd11 := Lib.hid (hs11.at rd9.out)
  clear hs10 hk11 hs11 hz hw9 r19 rd9
  go_wp2_with (first | (refine load_row rfl _ _ rfl w2.heap.size rfl _ _ _ _ r111.out Try.underlying42 rfl hinfS.out ?_) | (refine load_row rfl _ _ rfl w6.heap.size rfl _ _ _ _ rd11.out Try.underlying28 rfl hinfd.out ?_) | (refine build_struct rfl _ _ rfl [(0, .int .i64 1), (4, .agg D)] rfl _ hV0.out ?_) | (refine build_struct rfl _ _ rfl [(0, .agg V0)] rfl _ hC0.out ?_))
  refine (hH0.out _).mono ?_
  rintro e w12 ⟨rfl, hs12⟩
  have hw12 := Lib.hid (hw11.out.trans hs12)
  have r112 := Lib.hid (hs12.at r111.out)
  clear hs12 hw11 r111 rd11
  go_wp2_with (refine store_row rfl _ _ _ rfl w2.heap.size T rfl rfl _ _ r112.out hinfT.out szT.out oT.out ?_; intro w13 r113 hk13; have c43 := (cT.out _ _ _ r113).1; have c4 := (cT.out _ _ _ r113).2; replace r113 := Lib.hid r113; replace hk13 := Lib.hid hk13)
  go_ret
  exact ⟨rfl, hw12.out.keep hk13.out (fun x hx hv => by omega)⟩
end Go.Proofs.Ytmacgmmjgdmleaa
namespace Go.Proofs.Ytmacgmmjgdmleaa
open Go Go.ChangeShapes Go.WideShapes Go.ChangeAt Go.RowKit
set_option linter.unusedSimpArgs false
set_option linter.unusedVariables false

set_option maxRecDepth 100000
theorem rd_vote {H : Type} {enc : TypeId × Value → H} {W : World} {cs : List Value} (h : Rd enc W 30 cs) : ∃ v : VoteV, cs = v.cells ∧ v.wf := by
  have hl := (h.struct Try.underlying30).1
  rw [(by kernel_rfl : Try.prog.cellsOf 30 = 36)] at hl
  obtain ⟨a, ha, wa⟩ := (h.field Try.underlying30 0 _ rfl 0 1 rfl (by kernel_rfl)).int Try.underlying3
  obtain ⟨b, hb, wb⟩ := (h.field Try.underlying30 1 _ rfl 1 1 rfl (by kernel_rfl)).int Try.underlying3
  obtain ⟨c, hc, wc⟩ := (h.field Try.underlying30 2 _ rfl 2 1 rfl (by kernel_rfl)).int Try.underlying3
  obtain ⟨d, hd, wd⟩ := (h.field Try.underlying30 3 _ rfl 3 1 rfl (by kernel_rfl)).int Try.underlying3
  obtain ⟨l, ht, wl⟩ := (h.field Try.underlying30 4 _ rfl 4 32 rfl (by kernel_rfl)).bytes Try.underlying28 Try.underlying5 (by kernel_rfl) (by kernel_rfl)
  refine ⟨⟨a, b, c, d, l⟩, ?_, wl, wa, wb, wc, wd⟩
  have e1 : cs = (cs.drop 0).take 1 ++ ((cs.drop 1).take 1 ++ ((cs.drop 2).take 1 ++ ((cs.drop 3).take 1 ++ (cs.drop 4).take 32))) := by
    have e2 : (cs.drop 4).take 32 = cs.drop 4 := List.take_of_length_le (by rw [List.length_drop, hl]; decide)
    rw [e2]
    rcases cs with _ | ⟨x0, cs⟩
    · simp at hl
    rcases cs with _ | ⟨x1, cs⟩
    · simp at hl
    rcases cs with _ | ⟨x2, cs⟩
    · simp at hl
    rcases cs with _ | ⟨x3, cs⟩
    · simp at hl
    rfl
  rw [e1, ha, hb, hc, hd, ht]
  rfl
theorem rd_sign {H : Type} {enc : TypeId × Value → H} {W : World} {cs : List Value} (h : Rd enc W 219 cs) : ∃ s : SignV, cs = s.cells ∧ s.wf := by
  have hl := (h.struct Try.underlying219).1
  rw [(by kernel_rfl : Try.prog.cellsOf 219 = 17)] at hl
  obtain ⟨a, ha, wa⟩ := (h.field Try.underlying219 0 _ rfl 0 1 rfl (by kernel_rfl)).int Try.underlying3
  obtain ⟨l, ht, wl⟩ := (h.field Try.underlying219 1 _ rfl 1 16 rfl (by kernel_rfl)).bytes Try.underlying88 Try.underlying5 (by kernel_rfl) (by kernel_rfl)
  refine ⟨⟨a, l⟩, ?_, wl, wa⟩
  have e1 : cs = (cs.drop 0).take 1 ++ (cs.drop 1).take 16 := by
    have e2 : (cs.drop 1).take 16 = cs.drop 1 := List.take_of_length_le (by rw [List.length_drop, hl]; decide)
    rw [e2]
    rcases cs with _ | ⟨x0, cs⟩
    · simp at hl
    rfl
  rw [e1, ha, ht]
  rfl
theorem rd_cert {H : Type} {enc : TypeId × Value → H} {W : World} {cs : List Value} (h : Rd enc W 33 cs) : ∃ c : CertV, cs = c.cells ∧ c.at W := by
  have hl := (h.struct Try.underlying33).1
  rw [(by kernel_rfl : Try.prog.cellsOf 33 = 37)] at hl
  obtain ⟨v, hv, wv⟩ := rd_vote (h.field Try.underlying33 0 _ rfl 0 36 rfl (by kernel_rfl))
  obtain ⟨ao, ln, cap, L, h1, h2, h3, h4, _⟩ := (h.field Try.underlying33 1 _ rfl 36 1 rfl (by kernel_rfl)).slice Try.underlying31 (by kernel_rfl : Try.prog.cellsOf 219 = 17) (by decide) (by kernel_rfl : Try.prog.bytesOf 219 = 24)
  obtain ⟨l, h5, h6, h7⟩ := flat_many (f := SignV.cells) (p := fun r => r.wf) fun x hx => rd_sign (h4 x hx).2
  have hll : l.length = ln := by rw [h6, h3]
  refine ⟨⟨v, ao, cap, l⟩, ?_, wv, ?_, h7⟩
  · have e1 : cs = (cs.drop 0).take 36 ++ (cs.drop 36).take 1 := by
      have e2 : (cs.drop 36).take 1 = cs.drop 36 := List.take_of_length_le (by rw [List.length_drop, hl]; decide)
      rw [e2, List.drop_zero, List.take_append_drop]
    rw [e1, hv, h1, CertV.cells, hll]
  · simp only
    rw [hll, sv, ← h5]
    exact h2
theorem open_cert {H : Type} {enc : TypeId × Value → H} {W : World} {r : Reach} {b0 : Nat} {v : Value} {d : DataW H} {ps : List MemPlace} (hv : Value.okWide Try.prog W r b0 33 v) (h : DataW.Trod enc Try.prog W 0 (fun _ => true) true 33 v d ps) (hw : ∀ n ∈ DataW.weights Try.prog 33 d, n ≤ 140737488351232) :
    ∃ a : CertV, v = .agg a.cells.toArray ∧ a.at W := by
  obtain ⟨cs, rfl, _⟩ := okWide_struct Try.underlying33 hv
  obtain ⟨a, h1, h2⟩ := rd_cert (Rd.of h hw)
  exact ⟨a, by rw [toList_agg h1], h2⟩
abbrev cert_zero : Value := .agg (CertV.cells zeroCert).toArray
end Go.Proofs.Ytmacgmmjgdmleaa
namespace Go.Proofs.Ytmacgmmjgdmleaa
open Go Go.RowKit
set_option linter.unusedSimpArgs false
set_option linter.unusedVariables false

set_option maxRecDepth 100000
def ssv (l : List SlotV) : List Value := (l.map SlotV.cells).flatten
def slotAt (l : List SlotV) (i : Nat) : SlotV := l.getD i zeroSlot
theorem slotAt_mem {l : List SlotV} {i : Nat} (h : i < l.length) : slotAt l i ∈ l := by
  unfold slotAt
  simp only [List.getD, List.getElem?_eq_getElem h, Option.getD_some]
  exact List.getElem_mem _
theorem slotAt_get {l : List SlotV} {i : Nat} (h : i < l.length) : l[i]? = some (slotAt l i) := by
  unfold slotAt
  simp only [List.getD, List.getElem?_eq_getElem h, Option.getD_some]
/-- Not more than is looked at. -/
def SlotV.small (s : SlotV) : Prop := s.bat.small ∧ s.hbat.small ∧ s.ebat.small
theorem slot_infoL {s : SlotV} (h : s.wf) : (Try.prog.info? 42).map (·.size) = some s.cells.length := by rw [SlotV.len h]; kernel_rfl
set_option maxRecDepth 100000 in
set_option maxHeartbeats 3200000 in
theorem light18_any (g n : Nat) (ss : List SlotV) (w : World) (hn : ss.length = n) (hn1 : n ≤ 1000) (hsl : Sl w 85 (some ⟨g, 0, none⟩) n n (ssv ss)) (hat : ∀ s ∈ ss, s.at w) :
    Calls Try.prog 23 #[.slice (some ⟨g, 0, none⟩) n n] w fun e w' => ∃ L, e = .returned (.bool L) ∧ (L = true → ∀ s ∈ ss, s.small) ∧ Same w w' := by
  have hinfZ := Lib.hid (slot_info zeroSlot_wf)
  replace hsl := Lib.hid hsl
  replace hat := Lib.hid hat
  replace hn := Lib.hid hn
  go_enter Try.func23, Try.ntmps23
  go_wp2
  go_loopw [7] (fun i wr => ∃ k : Nat, k ≤ n ∧ i = .int .i64 k ∧ (∀ j, j < k → (slotAt ss j).small) ∧ Same w wr) (fun i _ => n - (intOf i).toNat)
  case atStart => exact ⟨0, by omega, rfl, fun j hj => by omega, Same.refl⟩
  case round =>
    obtain ⟨k, hk, rfl, hin, hs⟩ := hrel
    by_cases hlt : k < n
    · have hS0 := hat.out _ (slotAt_mem (l := ss) (i := k) (by rw [hn.out]; exact hlt))
      have hr : w.rangeAt g (k * 85) (slotAt ss k).cells := by
        intro j v hj
        have := hsl.out.cell _ rfl (k * 85 + j) v (flat_at' (f := SlotV.cells) (sz := 85) ss (fun s hs => SlotV.len (hat.out s hs).wf) k _ (slotAt_get (by rw [hn.out]; exact hlt)) j v hj)
        rw [add0] at this
        exact this
      obtain ⟨S, hSe⟩ : ∃ S, S = slotAt ss k := ⟨_, rfl⟩
      rw [← hSe] at hr hS0
      have hra := hs.range hr
      have hwf := hS0.wf
      have hinfL := Lib.hid (slot_infoL hwf)
      have hinf := Lib.hid (slot_info hwf)
      have hsz := Lib.hid (slot_size zeroSlot_wf hwf)
      have fb := Lib.hid (bat_infoL S.bat)
      have fh := Lib.hid (bat_infoL S.hbat)
      have fe := Lib.hid (bat_infoL S.ebat)
      have q0 : 0 ≤ (k : Int) := by omega
      have q1 : (k : Int) < (n : Int) := by omega
      clear hr
      replace hra := Lib.hid hra
      replace hS0 := Lib.hid hS0
      replace hSe := Lib.hid hSe
      replace hwf := Lib.hid hwf
      replace hin := Lib.hid hin
      replace hs := Lib.hid hs
      go_upto_region 4 with (first | (refine load_mid rfl _ _ rfl g (k * 85) (by simp [Act.eval]; done) S.cells _ hra.out Try.underlying42 rfl hinfL.out ?_) | (refine load_mid rfl _ _ rfl g (0 + k * 85) rfl S.cells _ (by rw [Nat.zero_add]; exact hra.out) Try.underlying42 rfl hinfL.out ?_) | (refine load_mid rfl _ _ rfl g (k * 85) rfl S.cells _ hra.out Try.underlying42 rfl hinfL.out ?_) | (refine alloc_new rfl 42 rfl zeroSlot.cells.toArray (by kernel_rfl) ?_; intro w1 hd hs1; have hdl := blk_lt hd; replace hd := Lib.hid hd; replace hs1 := Lib.hid hs1) | (refine store_row rfl _ _ _ rfl wr.heap.size S.cells.toArray rfl rfl _ _ hd.out hinf.out hsz.out (slot_one _) ?_; intro w2 rS hk2; replace rS := Lib.hid rS; replace hk2 := Lib.hid hk2))
      have hs2 : Same wr w2 := hs1.out.keep hk2.out (fun x hx hv => by omega)
      have hw2 := Lib.hid (hs.out.trans hs2)
      clear hs2 hk2 hs1 hd hs
      go_simp
      go_wp2_with (first | (refine load_mid rfl _ _ rfl wr.heap.size 1 rfl S.bat.cells _ (sl_bat rS.out) Try.underlying26 rfl fb.out ?_) | (refine load_mid rfl _ _ rfl wr.heap.size 4 rfl S.hbat.cells _ (sl_hbat rS.out) Try.underlying26 rfl fh.out ?_) | (refine load_mid rfl _ _ rfl wr.heap.size 45 rfl S.ebat.cells _ (sl_ebat rS.out hwf.out) Try.underlying26 rfl fe.out ?_) | (refine build_sl (W' := w2.alloc (.cells (bvs [S.bat, S.hbat, S.ebat]).toArray 26)) (.slice (some ⟨w2.heap.size, 0, none⟩) 3 3) rfl rfl (by kernel_rfl) ?_))
      have hS2 := SlotV.same' hS0.out (hw2.out.trans (Same.refl.alloc (.cells (bvs [S.bat, S.hbat, S.ebat]).toArray 26)))
      have hlt7 := light7_any (some ⟨w2.heap.size, 0, none⟩) 3 3 [S.bat, S.hbat, S.ebat] (w2.alloc (.cells (bvs [S.bat, S.hbat, S.ebat]).toArray 26)) (bvs_box [S.bat, S.hbat, S.ebat] 3 rfl (by unfold maxLen; omega)) rfl (by
        intro x hx
        simp only [List.mem_cons, List.not_mem_nil, or_false] at hx
        rcases hx with rfl | rfl | rfl
        · exact hS2.2.2.1
        · exact hS2.2.2.2.1
        · exact hS2.2.2.2.2.2.1)
      clear hS2
      refine hlt7.mono ?_
      rintro e w3 ⟨L, rfl, hL, hs'⟩
      have hs3 : Same w2 w3 := (Same.refl.alloc _).trans hs'
      have hw3 := Lib.hid (hw2.out.trans hs3)
      have rS3 := Lib.hid (hs3.at rS.out)
      clear hs' hlt7 hs3 hw2 rS
      replace hL := Lib.hid hL
      cases L
      · go_wp2
        go_ret
        exact ⟨false, rfl, by simp, hw3.out⟩
      · have hsm : S.small := ⟨hL.out rfl _ (by simp), hL.out rfl _ (by simp), hL.out rfl _ (by simp)⟩
        have hnew : ∀ j, j < k + 1 → (slotAt ss j).small := by
          intro j hj
          by_cases e : j = k
          · rw [e, ← hSe.out]
            exact hsm
          · exact hin.out j (by omega)
        clear hL hsm
        replace hnew := Lib.hid hnew
        have c42 := sl_hsigns rS3.out hwf.out
        have c83 := sl_esigns rS3.out hwf.out
        obtain ⟨n1, hn1e⟩ : ∃ x, x = S.hcert.signs.length := ⟨_, rfl⟩
        obtain ⟨n2, hn2e⟩ : ∃ x, x = S.ecert.signs.length := ⟨_, rfl⟩
        rw [← hn1e] at c42
        rw [← hn2e] at c83
        clear hn1e hn2e
        by_cases h1 : (n1 : Int) ≤ 100
        · have h1' : decide (100 < (n1 : Int)) = false := decide_eq_false (by omega)
          by_cases h2 : (n2 : Int) ≤ 100
          · have h2' : decide (100 < (n2 : Int)) = false := decide_eq_false (by omega)
            go_wp2
            go_roundw
            case rel => exact ⟨k + 1, by omega, by go_num, hnew.out, hw3.out⟩
            case measure => simp [intOf]; omega
          · have h2' : decide (100 < (n2 : Int)) = true := decide_eq_true (by omega)
            go_wp2
            go_ret
            exact ⟨false, rfl, by simp, hw3.out⟩
        · have h1' : decide (100 < (n1 : Int)) = true := decide_eq_true (by omega)
          go_wp2
          go_ret
          exact ⟨false, rfl, by simp, hw3.out⟩
    · obtain rfl : k = n := by omega
      have hall : ∀ s ∈ ss, s.small := by
        intro s hs
        obtain ⟨i, hi, rfl⟩ := List.getElem_of_mem hs
        have := hin i (by rw [← hn.out]; exact hi)
        simpa [slotAt, List.getD, hi] using this
      clear hin
      replace hs := Lib.hid hs
      replace hall := Lib.hid hall
      go_wp2
      go_ret
      exact ⟨true, rfl, fun _ => hall.out, hs.out⟩
end Go.Proofs.Ytmacgmmjgdmleaa
namespace Go.Proofs.Ytmacgmmjgdmleaa
open Go Go.ChangeShapes Go.WideShapes Go.ChangeAt Go.RowKit
set_option linter.unusedSimpArgs false
set_option linter.unusedVariables false

set_option maxRecDepth 100000
theorem rd_held {H : Type} {enc : TypeId × Value → H} {W : World} {cs : List Value} (h : Rd enc W 38 cs) : ∃ (b : BatV) (c : CertV), cs = heldCells b c ∧ b.at W ∧ c.at W := by
  have hl := (h.struct Try.underlying38).1
  rw [(by kernel_rfl : Try.prog.cellsOf 38 = 39)] at hl
  obtain ⟨b, hb, wb⟩ := rd_bat (h.field Try.underlying38 0 _ rfl 0 2 rfl (by kernel_rfl))
  obtain ⟨c, hc, wc⟩ := rd_cert (h.field Try.underlying38 1 _ rfl 2 37 rfl (by kernel_rfl))
  refine ⟨b, c, ?_, wb, wc⟩
  rw [heldCells, ← hb, ← hc]
  have e : (cs.drop 2).take 37 = cs.drop 2 := List.take_of_length_le (by rw [List.length_drop, hl]; decide)
  rw [e, List.drop_zero, List.take_append_drop]
theorem rd_ent {H : Type} {enc : TypeId × Value → H} {W : World} {cs : List Value} (h : Rd enc W 40 cs) : ∃ (s : Int) (b : BatV) (c : CertV), cs = entCells s b c ∧ (Lit.int .i64 s).wf = true ∧ b.at W ∧ c.at W := by
  have hl := (h.struct Try.underlying40).1
  rw [(by kernel_rfl : Try.prog.cellsOf 40 = 40)] at hl
  obtain ⟨s, hs, ws⟩ := (h.field Try.underlying40 0 _ rfl 0 1 rfl (by kernel_rfl)).int Try.underlying3
  obtain ⟨b, hb, wb⟩ := rd_bat (h.field Try.underlying40 1 _ rfl 1 2 rfl (by kernel_rfl))
  obtain ⟨c, hc, wc⟩ := rd_cert (h.field Try.underlying40 2 _ rfl 3 37 rfl (by kernel_rfl))
  refine ⟨s, b, c, ?_, ws, wb, wc⟩
  rw [entCells, ← hb, ← hc, ← hs]
  have e : (cs.drop 3).take 37 = cs.drop 3 := List.take_of_length_le (by rw [List.length_drop, hl]; decide)
  have e2 : (cs.drop 1).take 2 ++ cs.drop 3 = cs.drop 1 := by
    have := List.take_append_drop 2 (cs.drop 1)
    rw [List.drop_drop] at this
    exact this
  rw [e, e2, List.drop_zero, List.take_append_drop]
theorem rd_slot {H : Type} {enc : TypeId × Value → H} {W : World} {cs : List Value} (h : Rd enc W 42 cs) : ∃ s : SlotV, cs = s.cells ∧ s.at W := by
  have hl := (h.struct Try.underlying42).1
  rw [(by kernel_rfl : Try.prog.cellsOf 42 = 85)] at hl
  obtain ⟨v, hv, wv⟩ := (h.field Try.underlying42 0 _ rfl 0 1 rfl (by kernel_rfl)).int Try.underlying3
  obtain ⟨b, hb, wb⟩ := rd_bat (h.field Try.underlying42 1 _ rfl 1 2 rfl (by kernel_rfl))
  obtain ⟨i, hi⟩ := (h.field Try.underlying42 2 _ rfl 3 1 rfl (by kernel_rfl)).bool Try.underlying4
  obtain ⟨hb2, hc2, hh, whb, whc⟩ := rd_held (h.field Try.underlying42 3 _ rfl 4 39 rfl (by kernel_rfl))
  obtain ⟨o, ho⟩ := (h.field Try.underlying42 4 _ rfl 43 1 rfl (by kernel_rfl)).bool Try.underlying4
  obtain ⟨es, eb, ec, he, wes, web, wec⟩ := rd_ent (h.field Try.underlying42 5 _ rfl 44 40 rfl (by kernel_rfl))
  obtain ⟨dd, hdd⟩ := (h.field Try.underlying42 6 _ rfl 84 1 rfl (by kernel_rfl)).bool Try.underlying4
  refine ⟨⟨v, b, i, hb2, hc2, o, es, eb, ec, dd⟩, ?_, wv, wes, wb, whb, whc, web, wec⟩
  have cut : ∀ (n m : Nat), (cs.drop n).take m ++ cs.drop (n + m) = cs.drop n := by
    intro n m
    have := List.take_append_drop m (cs.drop n)
    rw [List.drop_drop] at this
    exact this
  have e6 : (cs.drop 84).take 1 = cs.drop 84 := List.take_of_length_le (by rw [List.length_drop, hl]; decide)
  simp only [SlotV.cells]
  show cs = [Value.int .i64 v] ++ (b.cells ++ ([Value.bool i] ++ (heldCells hb2 hc2 ++ ([Value.bool o] ++ (entCells es eb ec ++ [Value.bool dd])))))
  rw [← hv, ← hb, ← hi, ← hh, ← ho, ← he, ← hdd, e6, cut 44 40, cut 43 1, cut 4 39, cut 3 1, cut 1 2, cut 0 1, List.drop_zero]
theorem open_slot {H : Type} {enc : TypeId × Value → H} {W : World} {r : Reach} {b0 : Nat} {v : Value} {d : DataW H} {ps : List MemPlace} (hv : Value.okWide Try.prog W r b0 42 v) (h : DataW.Trod enc Try.prog W 0 (fun _ => true) true 42 v d ps) (hw : ∀ n ∈ DataW.weights Try.prog 42 d, n ≤ 140737488351232) :
    ∃ a : SlotV, v = .agg a.cells.toArray ∧ a.at W := by
  obtain ⟨cs, rfl, _⟩ := okWide_struct Try.underlying42 hv
  obtain ⟨a, h1, h2⟩ := rd_slot (Rd.of h hw)
  exact ⟨a, by rw [toList_agg h1], h2⟩
abbrev slot_zero : Value := .agg zeroSlot.cells.toArray
end Go.Proofs.Ytmacgmmjgdmleaa
