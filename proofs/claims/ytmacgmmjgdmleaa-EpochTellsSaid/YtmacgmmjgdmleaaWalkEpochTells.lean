/-
  The walk of the law EpochTells: all calls tell what the document says.
-/
-- @law rep ep, rep ep, int, int, int
import Derived.Test.YtmacgmmjgdmleaaRdCfg
import Derived.Test.YtmacgmmjgdmleaaOwnR
import Derived.Test.YtmacgmmjgdmleaaEpLives
import Derived.Test.YtmacgmmjgdmleaaEpPSame
import Derived.Test.YtmacgmmjgdmleaaEpNew
import Derived.Deep.DeepCutAuto
namespace Go.Proofs.Ytmacgmmjgdmleaa
open Go Go.RowKit
set_option linter.unusedSimpArgs false
set_option linter.unusedVariables false

theorem Same.row {w w' : World} {b : Nat} {o : Obj} (h : Same w w') (hb : w.heap[b]? = some o) : w'.heap[b]? = some o := (h.block b (blk_lt hb)).trans hb
/-- Numbers in a row of the call's own, L of them. -/
def isJ (B : Nat) (S : List Int) (L : Nat) : Value → World → Prop := fun v w => ∃ ao cap, v = .slice ao L cap ∧ Own w B 3 1 (.slice ao L cap) L (iv S)
theorem isJ_stable (B : Nat) (S : List Int) (L : Nat) : Stable Same (isJ B S L) := fun _ _ _ k ⟨ao, cap, h1, h2⟩ => ⟨ao, cap, h1, h2.same k⟩
set_option maxRecDepth 100000 in
set_option maxHeartbeats 6400000 in
theorem tells_yes (w : World) (a b : EpV) (ao : Option Addr) (ac : Nat) (bo : Option Addr) (bc : Nat) (slot leader view : Int) (ha : Sl w 1 ao a.leaders.length ac (iv a.leaders)) (hb : Sl w 1 bo b.leaders.length bc (iv b.leaders)) (wa : a.cfg.wf) (wb : b.cfg.wf) (h1 : a.leaders.length ≤ 100) (h2 : b.leaders.length ≤ 100)
    (hs1 : slot ≤ 9223372036854775807) (hs2 : -9223372036854775808 ≤ slot) (hl1 : leader ≤ 9223372036854775807) (hl2 : -9223372036854775808 ≤ leader) (hv1 : view ≤ 9223372036854775807) (hv2 : -9223372036854775808 ≤ view) :
    Calls Try.prog 12 #[.agg (epC a.cfg a.number a.start ao a.leaders.length ac).toArray, .agg (epC b.cfg b.number b.start bo b.leaders.length bc).toArray, .int .i64 slot, .int .i64 leader, .int .i64 view] w fun e w' => e = .returned (.bool true) ∧ Same w w' := by
  have hl := Lib.hid lives12
  have hinA := Lib.hid (ep_info a.cfg a.number a.start ao a.leaders.length ac)
  have hinB := Lib.hid (ep_info b.cfg b.number b.start bo b.leaders.length bc)
  have hinR := Lib.hid (rep_info a.cfg a.number a.start ao a.leaders.length ac)
  have k1 := fun w => of_any a.cfg a.number a.start ao a.leaders.length ac w
  have k2 := fun w h => egood_any a.cfg a.number a.start ao a.leaders.length ac a.leaders w h
  have k3 := fun w h => regood_any a.cfg a.number a.start ao a.leaders.length ac a.leaders w h
  have k4 := fun w h h' => psame_any a b ao ac bo bc w h h' wa wb
  have k5 := fun w => of_any b.cfg b.number b.start bo b.leaders.length bc w
  have k6 := fun w h h' => rsame_any a b ao ac bo bc w h h' wa wb
  have k7 := fun w h => eend_any a.cfg a.number a.start ao ac a.leaders w h
  have k8 := fun w h => reend_any a.cfg a.number a.start ao ac a.leaders w h
  have k9 := fun w h => eowner_any a.cfg a.number a.start ao ac a.leaders slot w h hs1 hs2
  have k10 := fun w h => reowner_any a.cfg a.number a.start ao ac a.leaders slot w h hs1 hs2
  have k11 := fun w h => eslots_any a.cfg a.number a.start ao ac a.leaders leader w h hl1 hl2
  have k12 := fun w h => reslots_any a.cfg a.number a.start ao ac a.leaders leader w h
  have kii := fun ao1 c1 ao2 c2 S w h1 h2 => ints_any ao1 S.length c1 S ao2 S.length c2 S w h1 h2
  have k14 := fun w h => eprimary_any a.cfg a.number a.start ao ac a.leaders leader view w h hl1 hl2
  have k15 := fun w h => reprimary_any a.cfg a.number a.start ao ac a.leaders leader view w h hl1 hl2
  have k16 := fun w h => ebucket_any a.cfg a.number a.start ao ac a.leaders leader view w h hl1 hv1
  have k17 := fun w h => rebucket_any a.cfg a.number a.start ao ac a.leaders leader view w h hl1 hv1
  obtain ⟨G, hG⟩ : ∃ G, G = egood a.cfg a.number a.start a.leaders := ⟨_, rfl⟩
  rw [← hG] at k2 k3
  clear hG
  obtain ⟨Q, hQ⟩ : ∃ Q, Q = esame a b := ⟨_, rfl⟩
  rw [← hQ] at k4 k6
  clear hQ
  obtain ⟨E, hE⟩ : ∃ E, E = eend a.cfg a.number a.start a.leaders := ⟨_, rfl⟩
  rw [← hE] at k7 k8
  clear hE
  obtain ⟨O, hO⟩ : ∃ O, O = eowner a.cfg a.number a.start a.leaders slot := ⟨_, rfl⟩
  rw [← hO] at k9 k10
  clear hO
  obtain ⟨S, hS⟩ : ∃ S, S = eslots a.cfg a.number a.start a.leaders leader := ⟨_, rfl⟩
  rw [← hS] at k11 k12
  clear hS
  obtain ⟨P, hP⟩ : ∃ P, P = eprimary a.cfg a.number a.start a.leaders leader view := ⟨_, rfl⟩
  rw [← hP] at k14 k15
  clear hP
  obtain ⟨B, hB⟩ : ∃ B, B = ebucket a.cfg a.number a.start a.leaders leader view := ⟨_, rfl⟩
  rw [← hB] at k16 k17
  clear hB
  have hdn : decide (100 < (a.leaders.length : Int)) = false := decide_eq_false (by omega)
  have hdm : decide (100 < (b.leaders.length : Int)) = false := decide_eq_false (by omega)
  clear wa wb hs1 hs2 hl1 hl2 hv1 hv2
  have hinS := Lib.hid (rep_info a.cfg a.number a.start ao a.leaders.length ac)
  have one := ep_one a.cfg a.number a.start ao a.leaders.length ac
  have kc1 : (epC a.cfg a.number a.start ao a.leaders.length ac).toArray[12]? = some (.slice ao a.leaders.length ac) := by simp [epC, Cfg.cells, Cfg.list, iv]
  have kc2 : (epC b.cfg b.number b.start bo b.leaders.length bc).toArray[12]? = some (.slice bo b.leaders.length bc) := by simp [epC, Cfg.cells, Cfg.list, iv]
  unfold RetI at k11 k12
  simp only [decide_true] at kii
  replace kii := fun ao1 c1 ao2 c2 => kii ao1 c1 ao2 c2 S
  obtain ⟨CA, hCA⟩ : ∃ CA, CA = (epC a.cfg a.number a.start ao a.leaders.length ac).toArray := ⟨_, rfl⟩
  obtain ⟨CB, hCB⟩ : ∃ CB, CB = (epC b.cfg b.number b.start bo b.leaders.length bc).toArray := ⟨_, rfl⟩
  rw [← hCA] at k1 k2 k3 k4 k6 k7 k8 k9 k10 k11 k12 k14 k15 k16 k17 hinA hinR hinS one kc1 ⊢
  rw [← hCB] at k4 k5 k6 hinB kc2 ⊢
  clear hCA hCB
  obtain ⟨n, hn⟩ : ∃ n, n = a.leaders.length := ⟨_, rfl⟩
  obtain ⟨m, hm⟩ : ∃ m, m = b.leaders.length := ⟨_, rfl⟩
  rw [← hn] at kc1 hdn
  rw [← hm] at kc2 hdm
  obtain ⟨L, hL⟩ : ∃ L, L = S.length := ⟨_, rfl⟩
  rw [← hL] at k11 k12 kii
  clear hn hm h1 h2
  replace hL := Lib.hid hL
  replace k1 := Lib.hid k1
  replace k2 := Lib.hid k2
  replace k3 := Lib.hid k3
  replace k4 := Lib.hid k4
  replace k5 := Lib.hid k5
  replace k6 := Lib.hid k6
  replace k7 := Lib.hid k7
  replace k8 := Lib.hid k8
  replace k9 := Lib.hid k9
  replace k10 := Lib.hid k10
  replace k11 := Lib.hid k11
  replace k12 := Lib.hid k12
  replace k14 := Lib.hid k14
  replace k15 := Lib.hid k15
  replace k16 := Lib.hid k16
  replace k17 := Lib.hid k17
  replace kii := Lib.hid kii
  replace one := Lib.hid one
  replace ha := Lib.hid ha
  replace hb := Lib.hid hb
  go_enter Try.func12, Try.ntmps12
  go_upto_region 1 with (first | (refine box_row rfl _ _ rfl CA rfl hinA.out ?_; intro w0 hbx hs0; have hbxl := blk_lt hbx; replace hbx := Lib.hid hbx; replace hs0 := Lib.hid hs0) | (refine box_row rfl _ _ rfl CB rfl hinB.out ?_; intro w1 hby hs1; replace hby := Lib.hid hby; replace hs1 := Lib.hid hs1))
  have rA := Lib.hid ((hs1.out.block _ hbxl).trans hbx.out)
  have s1 := Lib.hid (hs0.out.trans hs1.out)
  have c1 : w1.cell? ⟨w.heap.size, 12, none⟩ = some (.slice ao n ac) := (blk_cell rA.out 12).trans kc1
  have c2 : w1.cell? ⟨w0.heap.size, 12, none⟩ = some (.slice bo m bc) := (blk_cell hby.out 12).trans kc2
  clear hbx hs0 hs1 kc1 kc2
  go_wp2_with (refine load_row rfl _ _ rfl w.heap.size rfl _ _ _ _ rA.out Try.underlying124 rfl hinA.out ?_)
  refine (k1.out _).mono ?_
  rintro e w2 ⟨rfl, hs2⟩
  replace rA := Lib.hid (hs2.row rA.out)
  have rB := Lib.hid (hs2.row hby.out)
  replace s1 := Lib.hid (s1.out.trans hs2)
  clear hs2 hby c1 c2
  go_upto_region 4 with (first | (refine alloc_new rfl 125 rfl (epC zeroCfg 0 0 none 0 0).toArray (by kernel_rfl) ?_; intro w3 hz hs3; replace hz := Lib.hid hz; replace hs3 := Lib.hid hs3) | (refine store_row rfl _ _ _ rfl w2.heap.size CA rfl rfl _ _ hz.out hinS.out (by have h1 := hinS.out; have h2 := rep_info zeroCfg 0 0 none 0 0; rw [h2] at h1; exact Option.some.inj h1) one.out ?_; intro w4 rX hk4; replace rX := Lib.hid rX; replace hk4 := Lib.hid hk4))
  have zz2 := blk_lt rA.out
  have zz3 := blk_lt rB.out
  replace rA := Lib.hid ((hk4.out.block _ (blk_lt (hs3.out.row rA.out)) (by omega)).trans (hs3.out.row rA.out))
  replace rB := Lib.hid ((hk4.out.block _ (blk_lt (hs3.out.row rB.out)) (by omega)).trans (hs3.out.row rB.out))
  have zs := s1.out.size
  replace s1 := Lib.hid ((s1.out.trans hs3.out).keep hk4.out (fun x hx hv => by omega))
  clear hk4 hs3 hz zz2 zz3
  replace ha := Lib.hid (ha.out.same s1.out)
  replace hb := Lib.hid (hb.out.same s1.out)
  go_simp
  refine wp_region_lastM (by kernel_rfl) [(25, 0), (26, 1), (27, 2), (28, 3), (29, 4), (30, 5), (31, 6), (32, 7), (33, 8), (34, 9), (35, 10), (36, 11), (37, 12), (38, 13), (39, 14), (40, 15), (41, 16), (42, 17), (43, 18), (44, 19), (45, 20), (46, 21), (47, 22), (48, 23), (49, 24), (50, 25), (51, 26), (52, 27), (53, 28), (54, 29), (55, 30), (56, 31), (57, 32), (58, 33), (59, 34), (60, 35), (61, 36), (62, 37), (63, 38), (64, 39), (65, 40), (66, 41), (67, 42), (68, 43), (69, 44), (70, 45), (71, 46), (72, 47), (73, 48), (74, 49), (75, 50), (76, 51), (77, 52), (78, 53), (79, 54), (80, 55), (81, 56), (82, 57), (83, 58), (84, 59), (85, 60), (86, 61), (87, 62), (88, 63), (89, 64), (10, 65)] Same (Same _) [isV (.agg CA), isV (.bool G), isV (.agg CA), isV (.bool G), isV (.bool true), isV (.bool true), isV (.agg CA), isV (.agg CB), isV (.bool Q), isV (.agg CA), isV (.agg CB), isV (.agg CB), isV (.bool Q), isV (.bool true), isV (.bool true), isV (.bool true), isV (.agg CA), isV (.int .i64 E), isV (.agg CA), isV (.int .i64 E), isV (.bool true), isV (.bool true), isV (.bool true), isV (.agg CA), isV (.int .i64 slot), isV (.int .i64 O), isV (.agg CA), isV (.int .i64 slot), isV (.int .i64 O), isV (.bool true), isV (.bool true), isV (.bool true), isV (.agg CA), isV (.int .i64 leader), isJ w4.heap.size S L, isV (.agg CA), isV (.int .i64 leader), isJ w4.heap.size S L, isV (.bool true), isV (.bool true), isV (.bool true), isV (.agg CA), isV (.int .i64 leader), isV (.int .i64 view), isV (.int .i64 P), isV (.agg CA), isV (.int .i64 leader), isV (.int .i64 view), isV (.int .i64 P), isV (.bool true), isV (.bool true), isV (.bool true), isV (.agg CA), isV (.int .i64 leader), isV (.int .i64 view), isV (.int .i64 B), isV (.agg CA), isV (.int .i64 leader), isV (.int .i64 view), isV (.int .i64 B), isV (.bool true), isV (.bool true), isV (.bool true), isV (.bool true), isV (.bool true)] Same.refl.drew (fun _ _ h k => h.trans k) (by simp [isV_stable, isB_stable, isAny_stable, isJ_stable]) (by decide) (l := [_, _, _, _, _, _, _, _, _, _, _, _, _, _, _, _, _, _, _, _, _, _, _, _, _, _, _, _, _, _, _, _, _, _, _, _, _, _, _, _, _, _, _, _, _, _, _, _, _, _, _, _, _, _, _, _, _, _, _, _, _, _, _, _, _]) rfl (by decide) (by decide) (fun u => by simp only [mkAct, List.foldl_cons, List.foldl_nil, List.setIfInBounds_toArray, List.set_cons_succ, List.set_cons_zero] <;> exact rfl) ?_ ?_
  · intro M hM
    try dsimp only at hM
    replace hM := Lib.hid hM
    refine ⟨?_, ?_, ?_, ?_, ?_, ?_, ?_, ?_, ?_, ?_, ?_, ?_, ?_, ?_, ?_, ?_, ?_, ?_, ?_, ?_, ?_, ?_, ?_, ?_, ?_, ?_, ?_, ?_, ?_, ?_, ?_, ?_, ?_, ?_, ?_, ?_, ?_, ?_, ?_, ?_, ?_, ?_, ?_, ?_, ?_, ?_, ?_, ?_, ?_, ?_, ?_, ?_, ?_, ?_, ?_, ?_, ?_, ?_, ?_, ?_, ?_, ?_, ?_, ?_, ?_, trivial⟩
    all_goals (intro u wx hI hp; rw [hM.out u])
    · -- operation 0
      go_wp2_with (refine load_row rfl _ _ rfl w.heap.size rfl _ _ _ _ (hI.row rA.out) Try.underlying124 rfl hinA.out ?_)
      refine stm_v rfl Same.refl ?_
      rw [hM.out]; first | (simp only [upd, reduceIte, Nat.reduceEqDiff, Nat.reduceAdd, List.setIfInBounds_toArray, List.set_cons_succ, List.set_cons_zero, str]; done) | (simp [upd, str, *]; done)
    · -- operation 1
      obtain ⟨f0, -⟩ := hp
      replace f0 : u 0 = (.agg CA) := f0
      try simp only [f0, str]
      go_wp2_with fail
      refine (k2.out _ (ha.out.same hI)).mono ?_
      rintro e w1 ⟨rfl, hs'⟩
      go_wp2
      refine stm_v rfl hs' ?_
      rw [hM.out]; first | (simp only [upd, reduceIte, Nat.reduceEqDiff, Nat.reduceAdd, List.setIfInBounds_toArray, List.set_cons_succ, List.set_cons_zero, f0, str]; done) | (simp [upd, f0, str, *]; done)
    · -- operation 2
      go_wp2_with (refine load_row rfl _ _ rfl w2.heap.size rfl _ _ _ _ (hI.row rX.out) Try.underlying125 rfl hinR.out ?_)
      refine stm_v rfl Same.refl ?_
      rw [hM.out]; first | (simp only [upd, reduceIte, Nat.reduceEqDiff, Nat.reduceAdd, List.setIfInBounds_toArray, List.set_cons_succ, List.set_cons_zero, str]; done) | (simp [upd, str, *]; done)
    · -- operation 3
      obtain ⟨f2, -, -⟩ := hp
      replace f2 : u 2 = (.agg CA) := f2
      try simp only [f2, str]
      go_wp2_with fail
      refine (k3.out _ (ha.out.same hI)).mono ?_
      rintro e w1 ⟨rfl, hs'⟩
      go_wp2
      refine stm_v rfl hs' ?_
      rw [hM.out]; first | (simp only [upd, reduceIte, Nat.reduceEqDiff, Nat.reduceAdd, List.setIfInBounds_toArray, List.set_cons_succ, List.set_cons_zero, f2, str]; done) | (simp [upd, f2, str, *]; done)
    · -- operation 4
      obtain ⟨f1, f3, -⟩ := hp
      replace f1 : u 1 = (.bool G) := f1
      replace f3 : u 3 = (.bool G) := f3
      try simp only [f1, f3, str]
      have gg : (G == G) = true := by simp
      go_wp2
      refine stm_v rfl Same.refl ?_
      rw [hM.out]; first | (simp only [upd, reduceIte, Nat.reduceEqDiff, Nat.reduceAdd, List.setIfInBounds_toArray, List.set_cons_succ, List.set_cons_zero, f1, f3, str]; done) | (simp [upd, f1, f3, str, *]; done)
    · -- operation 5
      obtain ⟨f4, -, -⟩ := hp
      replace f4 : u 4 = (.bool true) := f4
      try simp only [f4, str]
      go_wp2
      refine stm_v rfl Same.refl ?_
      rw [hM.out]; first | (simp only [upd, reduceIte, Nat.reduceEqDiff, Nat.reduceAdd, List.setIfInBounds_toArray, List.set_cons_succ, List.set_cons_zero, f4, str]; done) | (simp [upd, f4, str, *]; done)
    · -- operation 6
      obtain ⟨f5, -⟩ := hp
      replace f5 : u 5 = (.bool true) := f5
      try simp only [f5, str]
      go_wp2_with (refine load_row rfl _ _ rfl w.heap.size rfl _ _ _ _ (hI.row rA.out) Try.underlying124 rfl hinA.out ?_)
      refine stm_v rfl Same.refl ?_
      rw [hM.out]; first | (simp only [upd, reduceIte, Nat.reduceEqDiff, Nat.reduceAdd, List.setIfInBounds_toArray, List.set_cons_succ, List.set_cons_zero, f5, str]; done) | (simp [upd, f5, str, *]; done)
    · -- operation 7
      obtain ⟨f5, -⟩ := hp
      replace f5 : u 5 = (.bool true) := f5
      try simp only [f5, str]
      go_wp2_with (refine load_row rfl _ _ rfl w0.heap.size rfl _ _ _ _ (hI.row rB.out) Try.underlying124 rfl hinB.out ?_)
      refine stm_v rfl Same.refl ?_
      rw [hM.out]; first | (simp only [upd, reduceIte, Nat.reduceEqDiff, Nat.reduceAdd, List.setIfInBounds_toArray, List.set_cons_succ, List.set_cons_zero, f5, str]; done) | (simp [upd, f5, str, *]; done)
    · -- operation 8
      obtain ⟨f6, f7, -, f5, -⟩ := hp
      replace f6 : u 6 = (.agg CA) := f6
      replace f7 : u 7 = (.agg CB) := f7
      replace f5 : u 5 = (.bool true) := f5
      try simp only [f6, f7, f5, str]
      go_wp2_with fail
      refine (k4.out _ (ha.out.same hI) (hb.out.same hI)).mono ?_
      rintro e w1 ⟨rfl, hs'⟩
      go_wp2
      refine stm_v rfl hs' ?_
      rw [hM.out]; first | (simp only [upd, reduceIte, Nat.reduceEqDiff, Nat.reduceAdd, List.setIfInBounds_toArray, List.set_cons_succ, List.set_cons_zero, f6, f7, f5, str]; done) | (simp [upd, f6, f7, f5, str, *]; done)
    · -- operation 9
      obtain ⟨f5, -⟩ := hp
      replace f5 : u 5 = (.bool true) := f5
      try simp only [f5, str]
      go_wp2_with (refine load_row rfl _ _ rfl w2.heap.size rfl _ _ _ _ (hI.row rX.out) Try.underlying125 rfl hinR.out ?_)
      refine stm_v rfl Same.refl ?_
      rw [hM.out]; first | (simp only [upd, reduceIte, Nat.reduceEqDiff, Nat.reduceAdd, List.setIfInBounds_toArray, List.set_cons_succ, List.set_cons_zero, f5, str]; done) | (simp [upd, f5, str, *]; done)
    · -- operation 10
      obtain ⟨f5, -⟩ := hp
      replace f5 : u 5 = (.bool true) := f5
      try simp only [f5, str]
      go_wp2_with (refine load_row rfl _ _ rfl w0.heap.size rfl _ _ _ _ (hI.row rB.out) Try.underlying124 rfl hinB.out ?_)
      refine stm_v rfl Same.refl ?_
      rw [hM.out]; first | (simp only [upd, reduceIte, Nat.reduceEqDiff, Nat.reduceAdd, List.setIfInBounds_toArray, List.set_cons_succ, List.set_cons_zero, f5, str]; done) | (simp [upd, f5, str, *]; done)
    · -- operation 11
      obtain ⟨f10, -, f5, -⟩ := hp
      replace f10 : u 10 = (.agg CB) := f10
      replace f5 : u 5 = (.bool true) := f5
      try simp only [f10, f5, str]
      go_wp2_with fail
      refine (k5.out _).mono ?_
      rintro e w1 ⟨rfl, hs'⟩
      go_wp2
      refine stm_v rfl hs' ?_
      rw [hM.out]; first | (simp only [upd, reduceIte, Nat.reduceEqDiff, Nat.reduceAdd, List.setIfInBounds_toArray, List.set_cons_succ, List.set_cons_zero, f10, f5, str]; done) | (simp [upd, f10, f5, str, *]; done)
    · -- operation 12
      obtain ⟨f9, f11, -, f5, -⟩ := hp
      replace f9 : u 9 = (.agg CA) := f9
      replace f11 : u 11 = (.agg CB) := f11
      replace f5 : u 5 = (.bool true) := f5
      try simp only [f9, f11, f5, str]
      go_wp2_with fail
      refine (k6.out _ (ha.out.same hI) (hb.out.same hI)).mono ?_
      rintro e w1 ⟨rfl, hs'⟩
      go_wp2
      refine stm_v rfl hs' ?_
      rw [hM.out]; first | (simp only [upd, reduceIte, Nat.reduceEqDiff, Nat.reduceAdd, List.setIfInBounds_toArray, List.set_cons_succ, List.set_cons_zero, f9, f11, f5, str]; done) | (simp [upd, f9, f11, f5, str, *]; done)
    · -- operation 13
      obtain ⟨f8, f12, f5, -⟩ := hp
      replace f8 : u 8 = (.bool Q) := f8
      replace f12 : u 12 = (.bool Q) := f12
      replace f5 : u 5 = (.bool true) := f5
      try simp only [f8, f12, f5, str]
      have gg : (Q == Q) = true := by simp
      go_wp2
      refine stm_v rfl Same.refl ?_
      rw [hM.out]; first | (simp only [upd, reduceIte, Nat.reduceEqDiff, Nat.reduceAdd, List.setIfInBounds_toArray, List.set_cons_succ, List.set_cons_zero, f8, f12, f5, str]; done) | (simp [upd, f8, f12, f5, str, *]; done)
    · -- operation 14
      obtain ⟨f5, f13, -⟩ := hp
      replace f5 : u 5 = (.bool true) := f5
      replace f13 : u 13 = (.bool true) := f13
      try simp only [f5, f13, str]
      go_wp2
      refine stm_v rfl Same.refl ?_
      rw [hM.out]; first | (simp only [upd, reduceIte, Nat.reduceEqDiff, Nat.reduceAdd, List.setIfInBounds_toArray, List.set_cons_succ, List.set_cons_zero, f5, f13, str]; done) | (simp [upd, f5, f13, str, *]; done)
    · -- operation 15
      obtain ⟨f14, -, -⟩ := hp
      replace f14 : u 14 = (.bool true) := f14
      try simp only [f14, str]
      go_wp2
      refine stm_v rfl Same.refl ?_
      rw [hM.out]; first | (simp only [upd, reduceIte, Nat.reduceEqDiff, Nat.reduceAdd, List.setIfInBounds_toArray, List.set_cons_succ, List.set_cons_zero, f14, str]; done) | (simp [upd, f14, str, *]; done)
    · -- operation 16
      obtain ⟨f15, -⟩ := hp
      replace f15 : u 15 = (.bool true) := f15
      try simp only [f15, str]
      go_wp2_with (refine load_row rfl _ _ rfl w.heap.size rfl _ _ _ _ (hI.row rA.out) Try.underlying124 rfl hinA.out ?_)
      refine stm_v rfl Same.refl ?_
      rw [hM.out]; first | (simp only [upd, reduceIte, Nat.reduceEqDiff, Nat.reduceAdd, List.setIfInBounds_toArray, List.set_cons_succ, List.set_cons_zero, f15, str]; done) | (simp [upd, f15, str, *]; done)
    · -- operation 17
      obtain ⟨f16, -, f15, -⟩ := hp
      replace f16 : u 16 = (.agg CA) := f16
      replace f15 : u 15 = (.bool true) := f15
      try simp only [f16, f15, str]
      go_wp2_with fail
      refine (k7.out _ (ha.out.same hI)).mono ?_
      rintro e w1 ⟨rfl, hs'⟩
      go_wp2
      refine stm_v rfl hs' ?_
      rw [hM.out]; first | (simp only [upd, reduceIte, Nat.reduceEqDiff, Nat.reduceAdd, List.setIfInBounds_toArray, List.set_cons_succ, List.set_cons_zero, f16, f15, str]; done) | (simp [upd, f16, f15, str, *]; done)
    · -- operation 18
      obtain ⟨f15, -⟩ := hp
      replace f15 : u 15 = (.bool true) := f15
      try simp only [f15, str]
      go_wp2_with (refine load_row rfl _ _ rfl w2.heap.size rfl _ _ _ _ (hI.row rX.out) Try.underlying125 rfl hinR.out ?_)
      refine stm_v rfl Same.refl ?_
      rw [hM.out]; first | (simp only [upd, reduceIte, Nat.reduceEqDiff, Nat.reduceAdd, List.setIfInBounds_toArray, List.set_cons_succ, List.set_cons_zero, f15, str]; done) | (simp [upd, f15, str, *]; done)
    · -- operation 19
      obtain ⟨f18, -, f15, -⟩ := hp
      replace f18 : u 18 = (.agg CA) := f18
      replace f15 : u 15 = (.bool true) := f15
      try simp only [f18, f15, str]
      go_wp2_with fail
      refine (k8.out _ (ha.out.same hI)).mono ?_
      rintro e w1 ⟨rfl, hs'⟩
      go_wp2
      refine stm_v rfl hs' ?_
      rw [hM.out]; first | (simp only [upd, reduceIte, Nat.reduceEqDiff, Nat.reduceAdd, List.setIfInBounds_toArray, List.set_cons_succ, List.set_cons_zero, f18, f15, str]; done) | (simp [upd, f18, f15, str, *]; done)
    · -- operation 20
      obtain ⟨f17, f19, f15, -⟩ := hp
      replace f17 : u 17 = (.int .i64 E) := f17
      replace f19 : u 19 = (.int .i64 E) := f19
      replace f15 : u 15 = (.bool true) := f15
      try simp only [f17, f19, f15, str]
      have gg : (E == E) = true := by simp
      go_wp2
      refine stm_v rfl Same.refl ?_
      rw [hM.out]; first | (simp only [upd, reduceIte, Nat.reduceEqDiff, Nat.reduceAdd, List.setIfInBounds_toArray, List.set_cons_succ, List.set_cons_zero, f17, f19, f15, str]; done) | (simp [upd, f17, f19, f15, str, *]; done)
    · -- operation 21
      obtain ⟨f15, f20, -⟩ := hp
      replace f15 : u 15 = (.bool true) := f15
      replace f20 : u 20 = (.bool true) := f20
      try simp only [f15, f20, str]
      go_wp2
      refine stm_v rfl Same.refl ?_
      rw [hM.out]; first | (simp only [upd, reduceIte, Nat.reduceEqDiff, Nat.reduceAdd, List.setIfInBounds_toArray, List.set_cons_succ, List.set_cons_zero, f15, f20, str]; done) | (simp [upd, f15, f20, str, *]; done)
    · -- operation 22
      obtain ⟨f21, -, -⟩ := hp
      replace f21 : u 21 = (.bool true) := f21
      try simp only [f21, str]
      go_wp2
      refine stm_v rfl Same.refl ?_
      rw [hM.out]; first | (simp only [upd, reduceIte, Nat.reduceEqDiff, Nat.reduceAdd, List.setIfInBounds_toArray, List.set_cons_succ, List.set_cons_zero, f21, str]; done) | (simp [upd, f21, str, *]; done)
    · -- operation 23
      obtain ⟨f22, -⟩ := hp
      replace f22 : u 22 = (.bool true) := f22
      try simp only [f22, str]
      go_wp2_with (refine load_row rfl _ _ rfl w.heap.size rfl _ _ _ _ (hI.row rA.out) Try.underlying124 rfl hinA.out ?_)
      refine stm_v rfl Same.refl ?_
      rw [hM.out]; first | (simp only [upd, reduceIte, Nat.reduceEqDiff, Nat.reduceAdd, List.setIfInBounds_toArray, List.set_cons_succ, List.set_cons_zero, f22, str]; done) | (simp [upd, f22, str, *]; done)
    · -- operation 24
      obtain ⟨f22, -⟩ := hp
      replace f22 : u 22 = (.bool true) := f22
      try simp only [f22, str]
      go_wp2
      refine stm_v rfl Same.refl ?_
      rw [hM.out]; first | (simp only [upd, reduceIte, Nat.reduceEqDiff, Nat.reduceAdd, List.setIfInBounds_toArray, List.set_cons_succ, List.set_cons_zero, f22, str]; done) | (simp [upd, f22, str, *]; done)
    · -- operation 25
      obtain ⟨f23, f24, -, f22, -⟩ := hp
      replace f23 : u 23 = (.agg CA) := f23
      replace f24 : u 24 = (.int .i64 slot) := f24
      replace f22 : u 22 = (.bool true) := f22
      try simp only [f23, f24, f22, str]
      go_wp2_with fail
      refine (k9.out _ (ha.out.same hI)).mono ?_
      rintro e w1 ⟨rfl, hs'⟩
      go_wp2
      refine stm_v rfl hs' ?_
      rw [hM.out]; first | (simp only [upd, reduceIte, Nat.reduceEqDiff, Nat.reduceAdd, List.setIfInBounds_toArray, List.set_cons_succ, List.set_cons_zero, f23, f24, f22, str]; done) | (simp [upd, f23, f24, f22, str, *]; done)
    · -- operation 26
      obtain ⟨f22, -⟩ := hp
      replace f22 : u 22 = (.bool true) := f22
      try simp only [f22, str]
      go_wp2_with (refine load_row rfl _ _ rfl w2.heap.size rfl _ _ _ _ (hI.row rX.out) Try.underlying125 rfl hinR.out ?_)
      refine stm_v rfl Same.refl ?_
      rw [hM.out]; first | (simp only [upd, reduceIte, Nat.reduceEqDiff, Nat.reduceAdd, List.setIfInBounds_toArray, List.set_cons_succ, List.set_cons_zero, f22, str]; done) | (simp [upd, f22, str, *]; done)
    · -- operation 27
      obtain ⟨f22, -⟩ := hp
      replace f22 : u 22 = (.bool true) := f22
      try simp only [f22, str]
      go_wp2
      refine stm_v rfl Same.refl ?_
      rw [hM.out]; first | (simp only [upd, reduceIte, Nat.reduceEqDiff, Nat.reduceAdd, List.setIfInBounds_toArray, List.set_cons_succ, List.set_cons_zero, f22, str]; done) | (simp [upd, f22, str, *]; done)
    · -- operation 28
      obtain ⟨f26, f27, -, f22, -⟩ := hp
      replace f26 : u 26 = (.agg CA) := f26
      replace f27 : u 27 = (.int .i64 slot) := f27
      replace f22 : u 22 = (.bool true) := f22
      try simp only [f26, f27, f22, str]
      go_wp2_with fail
      refine (k10.out _ (ha.out.same hI)).mono ?_
      rintro e w1 ⟨rfl, hs'⟩
      go_wp2
      refine stm_v rfl hs' ?_
      rw [hM.out]; first | (simp only [upd, reduceIte, Nat.reduceEqDiff, Nat.reduceAdd, List.setIfInBounds_toArray, List.set_cons_succ, List.set_cons_zero, f26, f27, f22, str]; done) | (simp [upd, f26, f27, f22, str, *]; done)
    · -- operation 29
      obtain ⟨f25, f28, f22, -⟩ := hp
      replace f25 : u 25 = (.int .i64 O) := f25
      replace f28 : u 28 = (.int .i64 O) := f28
      replace f22 : u 22 = (.bool true) := f22
      try simp only [f25, f28, f22, str]
      have gg : (O == O) = true := by simp
      go_wp2
      refine stm_v rfl Same.refl ?_
      rw [hM.out]; first | (simp only [upd, reduceIte, Nat.reduceEqDiff, Nat.reduceAdd, List.setIfInBounds_toArray, List.set_cons_succ, List.set_cons_zero, f25, f28, f22, str]; done) | (simp [upd, f25, f28, f22, str, *]; done)
    · -- operation 30
      obtain ⟨f22, f29, -⟩ := hp
      replace f22 : u 22 = (.bool true) := f22
      replace f29 : u 29 = (.bool true) := f29
      try simp only [f22, f29, str]
      go_wp2
      refine stm_v rfl Same.refl ?_
      rw [hM.out]; first | (simp only [upd, reduceIte, Nat.reduceEqDiff, Nat.reduceAdd, List.setIfInBounds_toArray, List.set_cons_succ, List.set_cons_zero, f22, f29, str]; done) | (simp [upd, f22, f29, str, *]; done)
    · -- operation 31
      obtain ⟨f30, -, -⟩ := hp
      replace f30 : u 30 = (.bool true) := f30
      try simp only [f30, str]
      go_wp2
      refine stm_v rfl Same.refl ?_
      rw [hM.out]; first | (simp only [upd, reduceIte, Nat.reduceEqDiff, Nat.reduceAdd, List.setIfInBounds_toArray, List.set_cons_succ, List.set_cons_zero, f30, str]; done) | (simp [upd, f30, str, *]; done)
    · -- operation 32
      obtain ⟨f31, -⟩ := hp
      replace f31 : u 31 = (.bool true) := f31
      try simp only [f31, str]
      go_wp2_with (refine load_row rfl _ _ rfl w.heap.size rfl _ _ _ _ (hI.row rA.out) Try.underlying124 rfl hinA.out ?_)
      refine stm_v rfl Same.refl ?_
      rw [hM.out]; first | (simp only [upd, reduceIte, Nat.reduceEqDiff, Nat.reduceAdd, List.setIfInBounds_toArray, List.set_cons_succ, List.set_cons_zero, f31, str]; done) | (simp [upd, f31, str, *]; done)
    · -- operation 33
      obtain ⟨f31, -⟩ := hp
      replace f31 : u 31 = (.bool true) := f31
      try simp only [f31, str]
      go_wp2
      refine stm_v rfl Same.refl ?_
      rw [hM.out]; first | (simp only [upd, reduceIte, Nat.reduceEqDiff, Nat.reduceAdd, List.setIfInBounds_toArray, List.set_cons_succ, List.set_cons_zero, f31, str]; done) | (simp [upd, f31, str, *]; done)
    · -- operation 34
      obtain ⟨f32, f33, -, f31, -⟩ := hp
      replace f32 : u 32 = (.agg CA) := f32
      replace f33 : u 33 = (.int .i64 leader) := f33
      replace f31 : u 31 = (.bool true) := f31
      try simp only [f32, f33, f31, str]
      go_wp2_with fail
      refine (k11.out _ (ha.out.same hI)).mono ?_
      rintro e w5 ⟨v5, rfl, ho5, hs5⟩
      obtain ⟨qo, qc, rfl, _⟩ := ho5.sl
      go_wp2
      refine stm_x (.slice qo L qc) rfl ⟨qo, qc, rfl, ho5.lower hI.size⟩ hs5 ?_
      rw [hM.out]; first | (simp only [upd, reduceIte, Nat.reduceEqDiff, Nat.reduceAdd, List.setIfInBounds_toArray, List.set_cons_succ, List.set_cons_zero, f32, f33, f31, str]; done) | (simp [upd, f32, f33, f31, str, *]; done)
    · -- operation 35
      obtain ⟨f31, -⟩ := hp
      replace f31 : u 31 = (.bool true) := f31
      try simp only [f31, str]
      go_wp2_with (refine load_row rfl _ _ rfl w2.heap.size rfl _ _ _ _ (hI.row rX.out) Try.underlying125 rfl hinR.out ?_)
      refine stm_v rfl Same.refl ?_
      rw [hM.out]; first | (simp only [upd, reduceIte, Nat.reduceEqDiff, Nat.reduceAdd, List.setIfInBounds_toArray, List.set_cons_succ, List.set_cons_zero, f31, str]; done) | (simp [upd, f31, str, *]; done)
    · -- operation 36
      obtain ⟨f31, -⟩ := hp
      replace f31 : u 31 = (.bool true) := f31
      try simp only [f31, str]
      go_wp2
      refine stm_v rfl Same.refl ?_
      rw [hM.out]; first | (simp only [upd, reduceIte, Nat.reduceEqDiff, Nat.reduceAdd, List.setIfInBounds_toArray, List.set_cons_succ, List.set_cons_zero, f31, str]; done) | (simp [upd, f31, str, *]; done)
    · -- operation 37
      obtain ⟨f35, f36, -, f31, -⟩ := hp
      replace f35 : u 35 = (.agg CA) := f35
      replace f36 : u 36 = (.int .i64 leader) := f36
      replace f31 : u 31 = (.bool true) := f31
      try simp only [f35, f36, f31, str]
      go_wp2_with fail
      refine (k12.out _ (ha.out.same hI)).mono ?_
      rintro e w5 ⟨v5, rfl, ho5, hs5⟩
      obtain ⟨qo, qc, rfl, _⟩ := ho5.sl
      go_wp2
      refine stm_x (.slice qo L qc) rfl ⟨qo, qc, rfl, ho5.lower hI.size⟩ hs5 ?_
      rw [hM.out]; first | (simp only [upd, reduceIte, Nat.reduceEqDiff, Nat.reduceAdd, List.setIfInBounds_toArray, List.set_cons_succ, List.set_cons_zero, f35, f36, f31, str]; done) | (simp [upd, f35, f36, f31, str, *]; done)
    · -- operation 38
      obtain ⟨f34, f37, -, f31, -⟩ := hp
      replace f31 : u 31 = (.bool true) := f31
      try simp only [f31, str]
      obtain ⟨qo, qc, e1, hq⟩ := f34
      obtain ⟨qo2, qc2, e2, hq2⟩ := f37
      replace e1 : u 34 = .slice qo L qc := e1
      replace e2 : u 37 = .slice qo2 L qc2 := e2
      simp only [e1, e2]
      replace e1 := Lib.hid e1
      replace e2 := Lib.hid e2
      go_wp2_with fail
      refine (kii.out _ _ _ _ _ hq.slS hq2.slS).mono ?_
      rintro e w5 ⟨rfl, hs5⟩
      go_wp2
      replace e1 := e1.out
      replace e2 := e2.out
      refine stm_x (.bool true) rfl rfl hs5 ?_
      rw [hM.out]; first | (simp only [upd, reduceIte, Nat.reduceEqDiff, Nat.reduceAdd, List.setIfInBounds_toArray, List.set_cons_succ, List.set_cons_zero, f31, str]; done) | (simp [upd, f31, str, *]; done)
    · -- operation 39
      obtain ⟨f31, f38, -⟩ := hp
      replace f31 : u 31 = (.bool true) := f31
      replace f38 : u 38 = (.bool true) := f38
      try simp only [f31, f38, str]
      go_wp2
      refine stm_v rfl Same.refl ?_
      rw [hM.out]; first | (simp only [upd, reduceIte, Nat.reduceEqDiff, Nat.reduceAdd, List.setIfInBounds_toArray, List.set_cons_succ, List.set_cons_zero, f31, f38, str]; done) | (simp [upd, f31, f38, str, *]; done)
    · -- operation 40
      obtain ⟨f39, -, -⟩ := hp
      replace f39 : u 39 = (.bool true) := f39
      try simp only [f39, str]
      go_wp2
      refine stm_v rfl Same.refl ?_
      rw [hM.out]; first | (simp only [upd, reduceIte, Nat.reduceEqDiff, Nat.reduceAdd, List.setIfInBounds_toArray, List.set_cons_succ, List.set_cons_zero, f39, str]; done) | (simp [upd, f39, str, *]; done)
    · -- operation 41
      obtain ⟨f40, -⟩ := hp
      replace f40 : u 40 = (.bool true) := f40
      try simp only [f40, str]
      go_wp2_with (refine load_row rfl _ _ rfl w.heap.size rfl _ _ _ _ (hI.row rA.out) Try.underlying124 rfl hinA.out ?_)
      refine stm_v rfl Same.refl ?_
      rw [hM.out]; first | (simp only [upd, reduceIte, Nat.reduceEqDiff, Nat.reduceAdd, List.setIfInBounds_toArray, List.set_cons_succ, List.set_cons_zero, f40, str]; done) | (simp [upd, f40, str, *]; done)
    · -- operation 42
      obtain ⟨f40, -⟩ := hp
      replace f40 : u 40 = (.bool true) := f40
      try simp only [f40, str]
      go_wp2
      refine stm_v rfl Same.refl ?_
      rw [hM.out]; first | (simp only [upd, reduceIte, Nat.reduceEqDiff, Nat.reduceAdd, List.setIfInBounds_toArray, List.set_cons_succ, List.set_cons_zero, f40, str]; done) | (simp [upd, f40, str, *]; done)
    · -- operation 43
      obtain ⟨f40, -⟩ := hp
      replace f40 : u 40 = (.bool true) := f40
      try simp only [f40, str]
      go_wp2
      refine stm_v rfl Same.refl ?_
      rw [hM.out]; first | (simp only [upd, reduceIte, Nat.reduceEqDiff, Nat.reduceAdd, List.setIfInBounds_toArray, List.set_cons_succ, List.set_cons_zero, f40, str]; done) | (simp [upd, f40, str, *]; done)
    · -- operation 44
      obtain ⟨f41, f42, f43, -, f40, -⟩ := hp
      replace f41 : u 41 = (.agg CA) := f41
      replace f42 : u 42 = (.int .i64 leader) := f42
      replace f43 : u 43 = (.int .i64 view) := f43
      replace f40 : u 40 = (.bool true) := f40
      try simp only [f41, f42, f43, f40, str]
      go_wp2_with fail
      refine (k14.out _ (ha.out.same hI)).mono ?_
      rintro e w1 ⟨rfl, hs'⟩
      go_wp2
      refine stm_v rfl hs' ?_
      rw [hM.out]; first | (simp only [upd, reduceIte, Nat.reduceEqDiff, Nat.reduceAdd, List.setIfInBounds_toArray, List.set_cons_succ, List.set_cons_zero, f41, f42, f43, f40, str]; done) | (simp [upd, f41, f42, f43, f40, str, *]; done)
    · -- operation 45
      obtain ⟨f40, -⟩ := hp
      replace f40 : u 40 = (.bool true) := f40
      try simp only [f40, str]
      go_wp2_with (refine load_row rfl _ _ rfl w2.heap.size rfl _ _ _ _ (hI.row rX.out) Try.underlying125 rfl hinR.out ?_)
      refine stm_v rfl Same.refl ?_
      rw [hM.out]; first | (simp only [upd, reduceIte, Nat.reduceEqDiff, Nat.reduceAdd, List.setIfInBounds_toArray, List.set_cons_succ, List.set_cons_zero, f40, str]; done) | (simp [upd, f40, str, *]; done)
    · -- operation 46
      obtain ⟨f40, -⟩ := hp
      replace f40 : u 40 = (.bool true) := f40
      try simp only [f40, str]
      go_wp2
      refine stm_v rfl Same.refl ?_
      rw [hM.out]; first | (simp only [upd, reduceIte, Nat.reduceEqDiff, Nat.reduceAdd, List.setIfInBounds_toArray, List.set_cons_succ, List.set_cons_zero, f40, str]; done) | (simp [upd, f40, str, *]; done)
    · -- operation 47
      obtain ⟨f40, -⟩ := hp
      replace f40 : u 40 = (.bool true) := f40
      try simp only [f40, str]
      go_wp2
      refine stm_v rfl Same.refl ?_
      rw [hM.out]; first | (simp only [upd, reduceIte, Nat.reduceEqDiff, Nat.reduceAdd, List.setIfInBounds_toArray, List.set_cons_succ, List.set_cons_zero, f40, str]; done) | (simp [upd, f40, str, *]; done)
    · -- operation 48
      obtain ⟨f45, f46, f47, -, f40, -⟩ := hp
      replace f45 : u 45 = (.agg CA) := f45
      replace f46 : u 46 = (.int .i64 leader) := f46
      replace f47 : u 47 = (.int .i64 view) := f47
      replace f40 : u 40 = (.bool true) := f40
      try simp only [f45, f46, f47, f40, str]
      go_wp2_with fail
      refine (k15.out _ (ha.out.same hI)).mono ?_
      rintro e w1 ⟨rfl, hs'⟩
      go_wp2
      refine stm_v rfl hs' ?_
      rw [hM.out]; first | (simp only [upd, reduceIte, Nat.reduceEqDiff, Nat.reduceAdd, List.setIfInBounds_toArray, List.set_cons_succ, List.set_cons_zero, f45, f46, f47, f40, str]; done) | (simp [upd, f45, f46, f47, f40, str, *]; done)
    · -- operation 49
      obtain ⟨f44, f48, f40, -⟩ := hp
      replace f44 : u 44 = (.int .i64 P) := f44
      replace f48 : u 48 = (.int .i64 P) := f48
      replace f40 : u 40 = (.bool true) := f40
      try simp only [f44, f48, f40, str]
      have gg : (P == P) = true := by simp
      go_wp2
      refine stm_v rfl Same.refl ?_
      rw [hM.out]; first | (simp only [upd, reduceIte, Nat.reduceEqDiff, Nat.reduceAdd, List.setIfInBounds_toArray, List.set_cons_succ, List.set_cons_zero, f44, f48, f40, str]; done) | (simp [upd, f44, f48, f40, str, *]; done)
    · -- operation 50
      obtain ⟨f40, f49, -⟩ := hp
      replace f40 : u 40 = (.bool true) := f40
      replace f49 : u 49 = (.bool true) := f49
      try simp only [f40, f49, str]
      go_wp2
      refine stm_v rfl Same.refl ?_
      rw [hM.out]; first | (simp only [upd, reduceIte, Nat.reduceEqDiff, Nat.reduceAdd, List.setIfInBounds_toArray, List.set_cons_succ, List.set_cons_zero, f40, f49, str]; done) | (simp [upd, f40, f49, str, *]; done)
    · -- operation 51
      obtain ⟨f50, -, -⟩ := hp
      replace f50 : u 50 = (.bool true) := f50
      try simp only [f50, str]
      go_wp2
      refine stm_v rfl Same.refl ?_
      rw [hM.out]; first | (simp only [upd, reduceIte, Nat.reduceEqDiff, Nat.reduceAdd, List.setIfInBounds_toArray, List.set_cons_succ, List.set_cons_zero, f50, str]; done) | (simp [upd, f50, str, *]; done)
    · -- operation 52
      obtain ⟨f51, -⟩ := hp
      replace f51 : u 51 = (.bool true) := f51
      try simp only [f51, str]
      go_wp2_with (refine load_row rfl _ _ rfl w.heap.size rfl _ _ _ _ (hI.row rA.out) Try.underlying124 rfl hinA.out ?_)
      refine stm_v rfl Same.refl ?_
      rw [hM.out]; first | (simp only [upd, reduceIte, Nat.reduceEqDiff, Nat.reduceAdd, List.setIfInBounds_toArray, List.set_cons_succ, List.set_cons_zero, f51, str]; done) | (simp [upd, f51, str, *]; done)
    · -- operation 53
      obtain ⟨f51, -⟩ := hp
      replace f51 : u 51 = (.bool true) := f51
      try simp only [f51, str]
      go_wp2
      refine stm_v rfl Same.refl ?_
      rw [hM.out]; first | (simp only [upd, reduceIte, Nat.reduceEqDiff, Nat.reduceAdd, List.setIfInBounds_toArray, List.set_cons_succ, List.set_cons_zero, f51, str]; done) | (simp [upd, f51, str, *]; done)
    · -- operation 54
      obtain ⟨f51, -⟩ := hp
      replace f51 : u 51 = (.bool true) := f51
      try simp only [f51, str]
      go_wp2
      refine stm_v rfl Same.refl ?_
      rw [hM.out]; first | (simp only [upd, reduceIte, Nat.reduceEqDiff, Nat.reduceAdd, List.setIfInBounds_toArray, List.set_cons_succ, List.set_cons_zero, f51, str]; done) | (simp [upd, f51, str, *]; done)
    · -- operation 55
      obtain ⟨f52, f53, f54, -, f51, -⟩ := hp
      replace f52 : u 52 = (.agg CA) := f52
      replace f53 : u 53 = (.int .i64 leader) := f53
      replace f54 : u 54 = (.int .i64 view) := f54
      replace f51 : u 51 = (.bool true) := f51
      try simp only [f52, f53, f54, f51, str]
      go_wp2_with fail
      refine (k16.out _ (ha.out.same hI)).mono ?_
      rintro e w1 ⟨rfl, hs'⟩
      go_wp2
      refine stm_v rfl hs' ?_
      rw [hM.out]; first | (simp only [upd, reduceIte, Nat.reduceEqDiff, Nat.reduceAdd, List.setIfInBounds_toArray, List.set_cons_succ, List.set_cons_zero, f52, f53, f54, f51, str]; done) | (simp [upd, f52, f53, f54, f51, str, *]; done)
    · -- operation 56
      obtain ⟨f51, -⟩ := hp
      replace f51 : u 51 = (.bool true) := f51
      try simp only [f51, str]
      go_wp2_with (refine load_row rfl _ _ rfl w2.heap.size rfl _ _ _ _ (hI.row rX.out) Try.underlying125 rfl hinR.out ?_)
      refine stm_v rfl Same.refl ?_
      rw [hM.out]; first | (simp only [upd, reduceIte, Nat.reduceEqDiff, Nat.reduceAdd, List.setIfInBounds_toArray, List.set_cons_succ, List.set_cons_zero, f51, str]; done) | (simp [upd, f51, str, *]; done)
    · -- operation 57
      obtain ⟨f51, -⟩ := hp
      replace f51 : u 51 = (.bool true) := f51
      try simp only [f51, str]
      go_wp2
      refine stm_v rfl Same.refl ?_
      rw [hM.out]; first | (simp only [upd, reduceIte, Nat.reduceEqDiff, Nat.reduceAdd, List.setIfInBounds_toArray, List.set_cons_succ, List.set_cons_zero, f51, str]; done) | (simp [upd, f51, str, *]; done)
    · -- operation 58
      obtain ⟨f51, -⟩ := hp
      replace f51 : u 51 = (.bool true) := f51
      try simp only [f51, str]
      go_wp2
      refine stm_v rfl Same.refl ?_
      rw [hM.out]; first | (simp only [upd, reduceIte, Nat.reduceEqDiff, Nat.reduceAdd, List.setIfInBounds_toArray, List.set_cons_succ, List.set_cons_zero, f51, str]; done) | (simp [upd, f51, str, *]; done)
    · -- operation 59
      obtain ⟨f56, f57, f58, -, f51, -⟩ := hp
      replace f56 : u 56 = (.agg CA) := f56
      replace f57 : u 57 = (.int .i64 leader) := f57
      replace f58 : u 58 = (.int .i64 view) := f58
      replace f51 : u 51 = (.bool true) := f51
      try simp only [f56, f57, f58, f51, str]
      go_wp2_with fail
      refine (k17.out _ (ha.out.same hI)).mono ?_
      rintro e w1 ⟨rfl, hs'⟩
      go_wp2
      refine stm_v rfl hs' ?_
      rw [hM.out]; first | (simp only [upd, reduceIte, Nat.reduceEqDiff, Nat.reduceAdd, List.setIfInBounds_toArray, List.set_cons_succ, List.set_cons_zero, f56, f57, f58, f51, str]; done) | (simp [upd, f56, f57, f58, f51, str, *]; done)
    · -- operation 60
      obtain ⟨f55, f59, f51, -⟩ := hp
      replace f55 : u 55 = (.int .i64 B) := f55
      replace f59 : u 59 = (.int .i64 B) := f59
      replace f51 : u 51 = (.bool true) := f51
      try simp only [f55, f59, f51, str]
      have gg : (B == B) = true := by simp
      go_wp2
      refine stm_v rfl Same.refl ?_
      rw [hM.out]; first | (simp only [upd, reduceIte, Nat.reduceEqDiff, Nat.reduceAdd, List.setIfInBounds_toArray, List.set_cons_succ, List.set_cons_zero, f55, f59, f51, str]; done) | (simp [upd, f55, f59, f51, str, *]; done)
    · -- operation 61
      obtain ⟨f51, f60, -⟩ := hp
      replace f51 : u 51 = (.bool true) := f51
      replace f60 : u 60 = (.bool true) := f60
      try simp only [f51, f60, str]
      go_wp2
      refine stm_v rfl Same.refl ?_
      rw [hM.out]; first | (simp only [upd, reduceIte, Nat.reduceEqDiff, Nat.reduceAdd, List.setIfInBounds_toArray, List.set_cons_succ, List.set_cons_zero, f51, f60, str]; done) | (simp [upd, f51, f60, str, *]; done)
    · -- operation 62
      obtain ⟨f61, -, -⟩ := hp
      replace f61 : u 61 = (.bool true) := f61
      try simp only [f61, str]
      go_wp2
      refine stm_v rfl Same.refl ?_
      rw [hM.out]; first | (simp only [upd, reduceIte, Nat.reduceEqDiff, Nat.reduceAdd, List.setIfInBounds_toArray, List.set_cons_succ, List.set_cons_zero, f61, str]; done) | (simp [upd, f61, str, *]; done)
    · -- operation 63
      obtain ⟨-, f62, -⟩ := hp
      replace f62 : u 62 = (.bool true) := f62
      try simp only [f62, str]
      go_wp2_with fail
      refine (hl.out _).mono ?_
      rintro e w1 ⟨rfl, hs'⟩
      go_wp2
      refine stm_v rfl hs' ?_
      rw [hM.out]; first | (simp only [upd, reduceIte, Nat.reduceEqDiff, Nat.reduceAdd, List.setIfInBounds_toArray, List.set_cons_succ, List.set_cons_zero, f62, str]; done) | (simp [upd, f62, str, *]; done)
    · -- operation 64
      obtain ⟨f62, f63, -⟩ := hp
      replace f62 : u 62 = (.bool true) := f62
      replace f63 : u 63 = (.bool true) := f63
      try simp only [f62, f63, str]
      go_wp2
      refine stm_v rfl Same.refl ?_
      rw [hM.out]; first | (simp only [upd, reduceIte, Nat.reduceEqDiff, Nat.reduceAdd, List.setIfInBounds_toArray, List.set_cons_succ, List.set_cons_zero, f62, f63, str]; done) | (simp [upd, f62, f63, str, *]; done)
  · intro M hM
    try dsimp only at hM
    intro u wx hI hR
    obtain ⟨r0, r1, r2, r3, r4, r5, r6, r7, r8, r9, r10, r11, r12, r13, r14, r15, r16, r17, r18, r19, r20, r21, r22, r23, r24, r25, r26, r27, r28, r29, r30, r31, r32, r33, r34, r35, r36, r37, r38, r39, r40, r41, r42, r43, r44, r45, r46, r47, r48, r49, r50, r51, r52, r53, r54, r55, r56, r57, r58, r59, r60, r61, r62, r63, r64, -⟩ := hR
    replace r0 : u 0 = (.agg CA) := r0
    replace r1 : u 1 = (.bool G) := r1
    replace r2 : u 2 = (.agg CA) := r2
    replace r3 : u 3 = (.bool G) := r3
    replace r4 : u 4 = (.bool true) := r4
    replace r5 : u 5 = (.bool true) := r5
    replace r6 : u 6 = (.agg CA) := r6
    replace r7 : u 7 = (.agg CB) := r7
    replace r8 : u 8 = (.bool Q) := r8
    replace r9 : u 9 = (.agg CA) := r9
    replace r10 : u 10 = (.agg CB) := r10
    replace r11 : u 11 = (.agg CB) := r11
    replace r12 : u 12 = (.bool Q) := r12
    replace r13 : u 13 = (.bool true) := r13
    replace r14 : u 14 = (.bool true) := r14
    replace r15 : u 15 = (.bool true) := r15
    replace r16 : u 16 = (.agg CA) := r16
    replace r17 : u 17 = (.int .i64 E) := r17
    replace r18 : u 18 = (.agg CA) := r18
    replace r19 : u 19 = (.int .i64 E) := r19
    replace r20 : u 20 = (.bool true) := r20
    replace r21 : u 21 = (.bool true) := r21
    replace r22 : u 22 = (.bool true) := r22
    replace r23 : u 23 = (.agg CA) := r23
    replace r24 : u 24 = (.int .i64 slot) := r24
    replace r25 : u 25 = (.int .i64 O) := r25
    replace r26 : u 26 = (.agg CA) := r26
    replace r27 : u 27 = (.int .i64 slot) := r27
    replace r28 : u 28 = (.int .i64 O) := r28
    replace r29 : u 29 = (.bool true) := r29
    replace r30 : u 30 = (.bool true) := r30
    replace r31 : u 31 = (.bool true) := r31
    replace r32 : u 32 = (.agg CA) := r32
    replace r33 : u 33 = (.int .i64 leader) := r33
    replace r35 : u 35 = (.agg CA) := r35
    replace r36 : u 36 = (.int .i64 leader) := r36
    replace r38 : u 38 = (.bool true) := r38
    replace r39 : u 39 = (.bool true) := r39
    replace r40 : u 40 = (.bool true) := r40
    replace r41 : u 41 = (.agg CA) := r41
    replace r42 : u 42 = (.int .i64 leader) := r42
    replace r43 : u 43 = (.int .i64 view) := r43
    replace r44 : u 44 = (.int .i64 P) := r44
    replace r45 : u 45 = (.agg CA) := r45
    replace r46 : u 46 = (.int .i64 leader) := r46
    replace r47 : u 47 = (.int .i64 view) := r47
    replace r48 : u 48 = (.int .i64 P) := r48
    replace r49 : u 49 = (.bool true) := r49
    replace r50 : u 50 = (.bool true) := r50
    replace r51 : u 51 = (.bool true) := r51
    replace r52 : u 52 = (.agg CA) := r52
    replace r53 : u 53 = (.int .i64 leader) := r53
    replace r54 : u 54 = (.int .i64 view) := r54
    replace r55 : u 55 = (.int .i64 B) := r55
    replace r56 : u 56 = (.agg CA) := r56
    replace r57 : u 57 = (.int .i64 leader) := r57
    replace r58 : u 58 = (.int .i64 view) := r58
    replace r59 : u 59 = (.int .i64 B) := r59
    replace r60 : u 60 = (.bool true) := r60
    replace r61 : u 61 = (.bool true) := r61
    replace r62 : u 62 = (.bool true) := r62
    replace r63 : u 63 = (.bool true) := r63
    replace r64 : u 64 = (.bool true) := r64
    rw [hM u]
    clear hM
    try simp only [str, r0, r1, r2, r3, r4, r5, r6, r7, r8, r9, r10, r11, r12, r13, r14, r15, r16, r17, r18, r19, r20, r21, r22, r23, r24, r25, r26, r27, r28, r29, r30, r31, r32, r33, r35, r36, r38, r39, r40, r41, r42, r43, r44, r45, r46, r47, r48, r49, r50, r51, r52, r53, r54, r55, r56, r57, r58, r59, r60, r61, r62, r63, r64]
    go_wp2
    go_ret
    exact ⟨rfl, s1.out.trans hI⟩
set_option maxRecDepth 100000 in
set_option maxHeartbeats 1600000 in
theorem tells_no (w : World) (a b : EpV) (ao : Option Addr) (ac : Nat) (bo : Option Addr) (bc : Nat) (slot leader view : Int) (h : 100 < a.leaders.length ∨ a.leaders.length ≤ 100 ∧ 100 < b.leaders.length) :
    Calls Try.prog 12 #[.agg (epC a.cfg a.number a.start ao a.leaders.length ac).toArray, .agg (epC b.cfg b.number b.start bo b.leaders.length bc).toArray, .int .i64 slot, .int .i64 leader, .int .i64 view] w fun e w' => e = .returned (.bool true) ∧ Same w w' := by
  have hl := Lib.hid lives12
  have hinA := Lib.hid (ep_info a.cfg a.number a.start ao a.leaders.length ac)
  have hinB := Lib.hid (ep_info b.cfg b.number b.start bo b.leaders.length bc)
  have kc1 : (epC a.cfg a.number a.start ao a.leaders.length ac).toArray[12]? = some (.slice ao a.leaders.length ac) := by simp [epC, Cfg.cells, Cfg.list, iv]
  have kc2 : (epC b.cfg b.number b.start bo b.leaders.length bc).toArray[12]? = some (.slice bo b.leaders.length bc) := by simp [epC, Cfg.cells, Cfg.list, iv]
  obtain ⟨CA, hCA⟩ : ∃ CA, CA = (epC a.cfg a.number a.start ao a.leaders.length ac).toArray := ⟨_, rfl⟩
  obtain ⟨CB, hCB⟩ : ∃ CB, CB = (epC b.cfg b.number b.start bo b.leaders.length bc).toArray := ⟨_, rfl⟩
  rw [← hCA] at hinA kc1 ⊢
  rw [← hCB] at hinB kc2 ⊢
  clear hCA hCB
  obtain ⟨n, hn⟩ : ∃ n, n = a.leaders.length := ⟨_, rfl⟩
  obtain ⟨m, hm⟩ : ∃ m, m = b.leaders.length := ⟨_, rfl⟩
  rw [← hn] at kc1 h
  rw [← hm] at kc2 h
  clear hn hm
  rcases h with h | ⟨h, h'⟩
  · have hdn : decide (100 < (n : Int)) = true := decide_eq_true (by omega)
    go_enter Try.func12, Try.ntmps12
    go_upto_region 1 with (first | (refine box_row rfl _ _ rfl CA rfl hinA.out ?_; intro w0 hbx hs0; have hbxl := blk_lt hbx; replace hbx := Lib.hid hbx; replace hs0 := Lib.hid hs0) | (refine box_row rfl _ _ rfl CB rfl hinB.out ?_; intro w1 hby hs1; replace hby := Lib.hid hby; replace hs1 := Lib.hid hs1))
    have s1 := Lib.hid (hs0.out.trans hs1.out)
    have c1 : w1.cell? ⟨w.heap.size, 12, none⟩ = some (.slice ao n ac) := (blk_cell ((hs1.out.block _ hbxl).trans hbx.out) 12).trans kc1
    clear hbx hs0 hs1 kc1 kc2 hby
    go_wp2_with fail
    refine (hl.out _).mono ?_
    rintro e w2 ⟨rfl, hs2⟩
    go_wp2
    go_ret
    exact ⟨rfl, s1.out.trans hs2⟩
  · have hdn : decide (100 < (n : Int)) = false := decide_eq_false (by omega)
    have hdm : decide (100 < (m : Int)) = true := decide_eq_true (by omega)
    go_enter Try.func12, Try.ntmps12
    go_upto_region 1 with (first | (refine box_row rfl _ _ rfl CA rfl hinA.out ?_; intro w0 hbx hs0; have hbxl := blk_lt hbx; replace hbx := Lib.hid hbx; replace hs0 := Lib.hid hs0) | (refine box_row rfl _ _ rfl CB rfl hinB.out ?_; intro w1 hby hs1; replace hby := Lib.hid hby; replace hs1 := Lib.hid hs1))
    have s1 := Lib.hid (hs0.out.trans hs1.out)
    have c1 : w1.cell? ⟨w.heap.size, 12, none⟩ = some (.slice ao n ac) := (blk_cell ((hs1.out.block _ hbxl).trans hbx.out) 12).trans kc1
    have c2 : w1.cell? ⟨w0.heap.size, 12, none⟩ = some (.slice bo m bc) := (blk_cell hby.out 12).trans kc2
    clear hbx hs0 hs1 kc1 kc2 hby
    go_wp2_with fail
    refine (hl.out _).mono ?_
    rintro e w2 ⟨rfl, hs2⟩
    go_wp2
    go_ret
    exact ⟨rfl, s1.out.trans hs2⟩
theorem walk_EpochTells (w : World) (a : EpIn) (ha : a.ep.cfg.wf ∧ (Lit.int .i64 a.ep.number).wf = true ∧ (Lit.int .i64 a.ep.start).wf = true ∧ Sl w 1 a.ao a.ep.leaders.length a.cap (iv a.ep.leaders) ∧ ∀ n ∈ a.ep.leaders, (Lit.int .i64 n).wf = true) (b : EpIn) (hb : b.ep.cfg.wf ∧ (Lit.int .i64 b.ep.number).wf = true ∧ (Lit.int .i64 b.ep.start).wf = true ∧ Sl w 1 b.ao b.ep.leaders.length b.cap (iv b.ep.leaders) ∧ ∀ n ∈ b.ep.leaders, (Lit.int .i64 n).wf = true) (slot : Int) (hs : (Lit.int .i64 slot).wf = true) (leader : Int) (hl : (Lit.int .i64 leader).wf = true) (view : Int) (hv : (Lit.int .i64 view).wf = true) :
    Calls Try.prog 12 #[.agg (epC a.ep.cfg a.ep.number a.ep.start a.ao a.ep.leaders.length a.cap).toArray, .agg (epC b.ep.cfg b.ep.number b.ep.start b.ao b.ep.leaders.length b.cap).toArray, .int .i64 slot, .int .i64 leader, .int .i64 view] w fun e w' => e = .returned (.bool true) ∧ Same w w' := by
  simp [Lit.wf, IntKind.min, IntKind.max, IntKind.signed, IntKind.bits] at hs hl hv
  by_cases h : 100 < a.ep.leaders.length
  · exact tells_no w a.ep b.ep _ _ _ _ slot leader view (.inl h)
  · by_cases h' : 100 < b.ep.leaders.length
    · exact tells_no w a.ep b.ep _ _ _ _ slot leader view (.inr ⟨by omega, h'⟩)
    · exact tells_yes w a.ep b.ep _ _ _ _ slot leader view ha.2.2.2.1 hb.2.2.2.1 ha.1 hb.1 (by omega) (by omega) (by omega) (by omega) (by omega) (by omega) (by omega) (by omega)
end Go.Proofs.Ytmacgmmjgdmleaa
