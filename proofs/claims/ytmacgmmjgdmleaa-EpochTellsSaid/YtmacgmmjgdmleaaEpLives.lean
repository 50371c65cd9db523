/-
  The chapter's example of epochs: it is as the law's 'lives' says. When the document's epochs are the same.
-/
import Derived.Test.YtmacgmmjgdmleaaEpSlots
namespace Go.Proofs.Ytmacgmmjgdmleaa
open Go Go.RowKit
set_option linter.unusedSimpArgs false
set_option linter.unusedVariables false

def plainCfg : Cfg := ⟨4, 2, 4, 4, 2, 2, 2, 12, 1, 100⟩
theorem cfg_one (c : Cfg) : c.cells.toArray.all (·.oneCell') = true := by simp [Cfg.cells, Cfg.list, iv, Value.oneCell']
set_option maxRecDepth 100000 in
set_option maxHeartbeats 400000 in
theorem plain_any (w : World) : Calls Try.prog 97 #[] w fun e w' => e = .returned (.agg plainCfg.cells.toArray) ∧ Same w w' := by
  have hinfC := Lib.hid (cfg_info plainCfg)
  go_enter Try.func97, Try.ntmps97
  go_wp2_with (first | (refine alloc_new rfl 68 rfl zeroCfg.cells.toArray (by kernel_rfl) ?_; intro w0 hd hs0; replace hd := Lib.hid hd; replace hs0 := Lib.hid hs0) | (refine build_const (ty := 68) (.agg plainCfg.cells.toArray) rfl rfl (by kernel_rfl) ?_) | (refine store_row rfl _ _ _ rfl w.heap.size _ rfl rfl _ _ hd.out hinfC.out rfl (cfg_one _) ?_; intro w1 hb1 hk1; replace hb1 := Lib.hid hb1; replace hk1 := Lib.hid hk1))
  refine bodyPost_ret (v := .agg plainCfg.cells.toArray) (results_row (p := 0) (ty := 68) rfl _ _ w.heap.size _ _ _ _ rfl hb1.out Try.underlying68 rfl hinfC.out) rfl ?_
  exact ⟨rfl, hs0.out.keep hk1.out (fun x hx hv => by omega)⟩
theorem plain_new : enew plainCfg 3 9 [] = (⟨plainCfg, 3, 9, [0, 1, 2, 3]⟩, 0) := by
  have h1 : plainCfg.good = true := by decide +kernel
  have h2 : leads plainCfg 3 [] = [0, 1, 2, 3] := by decide +kernel
  have h3 : egood plainCfg 3 9 [0, 1, 2, 3] = true := by decide +kernel
  rw [enew, if_neg (by rw [h1]; simp), if_neg (by decide), h2, if_pos h3]
theorem plain_good : egood plainCfg 3 9 [0, 1, 2, 3] = true := by decide +kernel
theorem plain_end : eend plainCfg 3 9 [0, 1, 2, 3] = 17 := by decide +kernel
theorem plain_owner : eowner plainCfg 3 9 [0, 1, 2, 3] 10 = 1 := by decide +kernel
theorem plain_slots : eslots plainCfg 3 9 [0, 1, 2, 3] 1 = [10, 14] := by decide +kernel
theorem plain_primary : eprimary plainCfg 3 9 [0, 1, 2, 3] 3 2 = 1 := by decide +kernel
set_option maxRecDepth 100000 in
set_option maxHeartbeats 1600000 in
theorem lives12 (w : World) : Calls Try.prog 54 #[] w fun e w' => e = .returned (.bool true) ∧ Same w w' := by
  have hP := Lib.hid plain_any
  have hN := fun w => enew_any plainCfg 3 9 none 0 0 [] w (Sl.none w 1)
  have hG := fun w ao cap h => egood_any plainCfg 3 9 ao 4 cap [0, 1, 2, 3] w h
  have hE := fun w ao cap h => eend_any plainCfg 3 9 ao cap [0, 1, 2, 3] w h
  have hO := fun w ao cap h => eowner_any plainCfg 3 9 ao cap [0, 1, 2, 3] 10 w h (by omega) (by omega)
  have hS := fun w ao cap h => eslots_any plainCfg 3 9 ao cap [0, 1, 2, 3] 1 w h (by omega) (by omega)
  have hR := fun w ao cap h => eprimary_any plainCfg 3 9 ao cap [0, 1, 2, 3] 3 2 w h (by omega) (by omega)
  rw [plain_new] at hN
  rw [plain_good] at hG
  rw [plain_end] at hE
  rw [plain_owner] at hO
  rw [plain_slots] at hS
  rw [plain_primary] at hR
  have hI2 := fun ao ac bo bc w h1 h2 => ints_any ao 2 ac [10, 14] bo 2 bc [10, 14] w h1 h2
  simp only [decide_true] at hI2
  unfold RetEp at hN
  unfold RetI at hS
  have hinf0 := Lib.hid (ep_info zeroCfg 0 0 none 0 0)
  have hinfP := fun ao cap => ep_info plainCfg 3 9 ao 4 cap
  obtain ⟨C, hC⟩ : ∃ C, C = plainCfg := ⟨_, rfl⟩
  replace hP : Hid (∀ w : World, Calls Try.prog 97 #[] w fun e w' => e = .returned (.agg C.cells.toArray) ∧ Same w w') := by rw [hC]; exact hP
  rw [← hC] at hN hG hE hO hS hR hinfP
  replace hC := Lib.hid hC
  obtain ⟨L, hL⟩ : ∃ L : List Int, L = [0, 1, 2, 3] := ⟨_, rfl⟩
  have hLl : L.length = 4 := by rw [hL]; rfl
  obtain ⟨S, hSe⟩ : ∃ S : List Int, S = [10, 14] := ⟨_, rfl⟩
  have hSl : S.length = 2 := by rw [hSe]; rfl
  have hNE : ∀ w, Calls Try.prog 125 #[.agg C.cells.toArray, .int .i64 3, .int .i64 9, .slice none 0 0] w fun e w' => ∃ ao cap, e = .returned (.tuple #[.agg (epC C 3 9 ao 4 cap).toArray, .int .i64 0]) ∧ Sl w' 1 ao 4 cap (iv L) ∧ Same w w' := by rw [hL]; exact hN
  rw [← hL] at hG
  replace hE : ∀ (w : World) (ao : Option Addr) (cap : Nat), Sl w 1 ao 4 cap (iv L) → Calls Try.prog 60 #[.agg (epC C 3 9 ao 4 cap).toArray] w fun e w' => e = .returned (.int .i64 17) ∧ Same w w' := by rw [hL]; exact hE
  replace hO : ∀ (w : World) (ao : Option Addr) (cap : Nat), Sl w 1 ao 4 cap (iv L) → Calls Try.prog 62 #[.agg (epC C 3 9 ao 4 cap).toArray, .int .i64 10] w fun e w' => e = .returned (.int .i64 1) ∧ Same w w' := by rw [hL]; exact hO
  replace hS : ∀ (w : World) (ao : Option Addr) (cap : Nat), Sl w 1 ao 4 cap (iv L) → Calls Try.prog 65 #[.agg (epC C 3 9 ao 4 cap).toArray, .int .i64 1] w fun e w' => ∃ v, e = .returned v ∧ Own w' w.heap.size 3 1 v 2 (iv S) ∧ Same w w' := by rw [hL, hSe]; exact hS
  replace hR : ∀ (w : World) (ao : Option Addr) (cap : Nat), Sl w 1 ao 4 cap (iv L) → Calls Try.prog 67 #[.agg (epC C 3 9 ao 4 cap).toArray, .int .i64 3, .int .i64 2] w fun e w' => e = .returned (.int .i64 1) ∧ Same w w' := by rw [hL]; exact hR
  have hivS : iv S = [.int .i64 10, .int .i64 14] := by rw [hSe]; rfl
  rw [← hSe] at hI2
  clear hL hLl hSe hSl hN
  replace hNE := Lib.hid hNE
  replace hG := Lib.hid hG
  replace hE := Lib.hid hE
  replace hO := Lib.hid hO
  replace hS := Lib.hid hS
  replace hR := Lib.hid hR
  replace hI2 := Lib.hid hI2
  replace hivS := Lib.hid hivS
  replace hinfP := Lib.hid hinfP
  go_enter Try.func54, Try.ntmps54
  go_wp2_with fail
  refine (hP.out _).mono ?_
  rintro e w1 ⟨rfl, hs1⟩
  go_wp2_with fail
  refine (hNE.out _).mono ?_
  rintro e w2 ⟨ao, cap, rfl, hsl, hs2⟩
  have hw2 := hs1.trans hs2
  have hinfE := Lib.hid (hinfP.out ao cap)
  clear hs1 hs2
  replace hw2 := Lib.hid hw2
  replace hsl := Lib.hid hsl
  go_upto_region 2 with (first | (refine alloc_new rfl 124 rfl (epC zeroCfg 0 0 none 0 0).toArray (by kernel_rfl) ?_; intro w3 hd hs3; have hdl := blk_lt hd; replace hd := Lib.hid hd; replace hs3 := Lib.hid hs3) | (refine store_row rfl _ _ _ rfl w2.heap.size _ rfl rfl _ _ hd.out hinfE.out rfl (ep_one _ _ _ _ _ _) ?_; intro w4 hb4 hk4))
  have hs24 : Same w2 w4 := hs3.out.keep hk4 (fun x hx hv => by omega)
  have hsl4 := hsl.out.same hs24
  have hw4 := hw2.out.trans hs24
  have hb4l := blk_lt hb4
  clear hk4 hs3 hd hs24 hsl hw2
  replace hb4 := Lib.hid hb4
  replace hsl4 := Lib.hid hsl4
  replace hw4 := Lib.hid hw4
  go_simp
  go_wp2_with (refine load_row rfl _ _ rfl w2.heap.size rfl _ _ _ _ hb4.out Try.underlying124 rfl hinfE.out ?_)
  refine (hG.out _ _ _ hsl4.out).mono ?_
  rintro e w5 ⟨rfl, hs5⟩
  replace hs5 := Lib.hid hs5
  have hb5 := Lib.hid ((hs5.out.block _ hb4l).trans hb4.out)
  go_wp2_with (refine load_row rfl _ _ rfl w2.heap.size rfl _ _ _ _ hb5.out Try.underlying124 rfl hinfE.out ?_)
  refine (hE.out _ _ _ (hsl4.out.same hs5.out)).mono ?_
  rintro e w6 ⟨rfl, hs6⟩
  have hs46 := Lib.hid (hs5.out.trans hs6)
  have hb6 := Lib.hid ((hs46.out.block _ hb4l).trans hb4.out)
  clear hs5 hs6 hb5
  go_wp2_with (refine load_row rfl _ _ rfl w2.heap.size rfl _ _ _ _ hb6.out Try.underlying124 rfl hinfE.out ?_)
  refine (hO.out _ _ _ (hsl4.out.same hs46.out)).mono ?_
  rintro e w7 ⟨rfl, hs7⟩
  have hs47 := Lib.hid (hs46.out.trans hs7)
  have hb7 := Lib.hid ((hs47.out.block _ hb4l).trans hb4.out)
  clear hs46 hs7 hb6
  go_wp2_with (refine load_row rfl _ _ rfl w2.heap.size rfl _ _ _ _ hb7.out Try.underlying124 rfl hinfE.out ?_)
  refine (hS.out _ _ _ (hsl4.out.same hs47.out)).mono ?_
  rintro e w8 ⟨v8, rfl, ho8, hs8⟩
  obtain ⟨so, sc, rfl, hs8l⟩ := ho8.sl
  have hs48 := Lib.hid (hs47.out.trans hs8)
  have hbx := sl_box (w := w8) (e := 3) [.int .i64 10, .int .i64 14] 2 rfl (by unfold maxLen; omega)
  have hbx2 : Sl (w8.alloc (.cells #[.int .i64 10, .int .i64 14] 3)) 1 (some ⟨w8.heap.size, 0, none⟩) 2 2 (iv S) := by rw [hivS.out]; exact hbx
  have hii := Lib.hid (hI2.out _ _ _ _ _ (hs8l.same (Same.refl.alloc (.cells #[.int .i64 10, .int .i64 14] 3))) hbx2)
  clear hs47 hs8 hb7 ho8 hs8l hbx hbx2
  go_wp2_with fail
  refine hii.out.mono ?_
  rintro e w9 ⟨rfl, hs9⟩
  have hs49 := Lib.hid ((hs48.out.alloc _).trans hs9)
  have hb9 := Lib.hid ((hs49.out.block _ hb4l).trans hb4.out)
  clear hs48 hs9 hii
  go_wp2_with (refine load_row rfl _ _ rfl w2.heap.size rfl _ _ _ _ hb9.out Try.underlying124 rfl hinfE.out ?_)
  refine (hR.out _ _ _ (hsl4.out.same hs49.out)).mono ?_
  rintro e wa ⟨rfl, hsa⟩
  go_wp2
  go_ret
  exact ⟨rfl, (hw4.out.trans hs49.out).trans hsa⟩
end Go.Proofs.Ytmacgmmjgdmleaa
