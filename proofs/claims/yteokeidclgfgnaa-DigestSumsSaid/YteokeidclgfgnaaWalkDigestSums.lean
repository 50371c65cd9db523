/-
  The walk of the law DigestSums: whatever parts and digest, it answers true and turns nothing that was there.
-/
-- @law rep rows, rep digest
import Derived.Test.YteokeidclgfgnaaLight3
import Derived.Test.YteokeidclgfgnaaEq
import Derived.Test.YteokeidclgfgnaaRd
import Derived.Deep.DeepCutAuto
namespace Go.Proofs.Yteokeidclgfgnaa
open Go Go.RowKit
set_option linter.unusedSimpArgs false
set_option linter.unusedVariables false

theorem sls_of {w : World} (L : List ((Option Addr × Nat × Nat) × List UInt8)) (h : ∀ x ∈ L, Sl w 1 x.1.1 x.1.2.1 x.1.2.2 (bv x.2)) : Sls w (L.map fun x => .slice x.1.1 x.1.2.1 x.1.2.2) (L.map (·.2)) := by
  induction L with
  | nil => exact Sls.nil w
  | cons x L ih => exact Sls.cons (h x (List.mem_cons_self ..)) (ih fun y hy => h y (List.mem_cons_of_mem _ hy))
set_option maxRecDepth 100000 in
set_option maxHeartbeats 2000000 in
theorem sums_main (w : World) (po : Option Addr) (pn pc : Nat) (vs : List Value) (bs : List (List UInt8)) (hsl : Sl w 1 po pn pc vs) (hp : Sls w vs bs) (hpc : pc * 24 ≤ 140737488351232) (hbl : ∀ j, (bs.getD j []).length ≤ 140737488351232) (d : List UInt8) (hd : d.length = 32) :
    Calls Try.prog 5 #[.slice po pn pc, .agg (bv d).toArray] w fun e w' => e = .returned (.bool true) ∧ Same w w' := by
  have hlives := Lib.hid lives3
  have hlen : bs.length = pn := by have := hsl.len; have := hp.1; omega
  have hcap := hsl.cap
  have hinf := Lib.hid (dig_info hd)
  have hlight := fun w h1 h2 => light3_any po pn pc vs bs w h1 h2 hpc hbl
  by_cases hL : totB bs bs.length ≤ 5000
  · have hLB : LightB bs = true := by simp [LightB, hL]
    rw [hLB] at hlight
    clear hLB
    have hpn : pn ≤ 5000 := by have := totB_flat bs bs.length (Nat.le_refl _); omega
    have hfl : ∀ k, k ≤ pn → (bs.take k).flatten.length ≤ 5000 := fun k hk => by
      have h1 := totB_flat bs k (by omega)
      have h2 := totB_mono bs k (by omega)
      omega
    have hbl2 : ∀ j, (bs.getD j []).length ≤ 5000 := by
      intro j
      by_cases hj : j < bs.length
      · have h1 := totB_succ hj
        have h2 := totB_mono bs (j + 1) hj
        omega
      · simp [List.getD, List.getElem?_eq_none (Nat.not_lt.1 hj)]
    replace hlight := Lib.hid hlight
    replace hfl := Lib.hid hfl
    replace hbl2 := Lib.hid hbl2
    replace hbl := Lib.hid hbl
    replace hsl := Lib.hid hsl
    replace hp := Lib.hid hp
    replace hlen := Lib.hid hlen
    go_enter Try.func5, Try.ntmps5
    go_wp2_with (refine box_row rfl _ _ rfl _ rfl hinf.out ?_; intro w0 hbx hs0; have hb0 := blk_lt hbx; replace hbx := Lib.hid hbx; have hsl0 := hsl.out.same hs0; have hp0 := hp.out.same hs0; replace hs0 := Lib.hid hs0)
    have hl0 := Lib.hid (hlight.out _ hsl0 hp0)
    replace hsl0 := Lib.hid hsl0
    replace hp0 := Lib.hid hp0
    go_wp2_with fail
    refine (hl0.out).mono ?_
    rintro e w1 ⟨rfl, rfl⟩
    go_wp2
    go_loopw [5, 6, 16] (fun v5 v6 i wr => ∃ (k : Nat) (cs : List Value), k ≤ pn ∧ i = .int .i64 k ∧ Own wr w0.heap.size 5 1 v5 (bs.take k).flatten.length (bv (bs.take k).flatten) ∧ Own wr w0.heap.size 22 1 v6 k cs ∧ Copies wr w0.heap.size v5 v6 cs (bs.take k) ∧ (∀ b, v5.ownBlock = some b → v6.ownBlock ≠ some b) ∧ Same w0 wr) (fun _ _ i _ => pn - (intOf i).toNat)
    case atStart => exact ⟨0, [], by omega, rfl, Own.nil _ _ _ _, Own.nil _ _ _ _, ⟨rfl, fun j hj => by simp at hj⟩, fun b hb => by simp [Value.ownBlock] at hb, Same.refl⟩
    case round =>
      obtain ⟨k, cs, hk, rfl, ho5, ho6, hcp, hne, hs⟩ := hrel
      by_cases hlt : k < pn
      · -- [[A
        have hkT : k < bs.length := by rw [hlen.out]; exact hlt
        obtain ⟨ao, n, c, hv, hsk⟩ := hp0.out.2 k hkT
        have hvs : vs ≠ [] := by
          rintro rfl
          have := hp0.out.1
          simp at this
          omega
        obtain ⟨bk, off, rfl, hbk, hcell⟩ := hsl0.out.at hvs
        have cc := hs.cell (hcell k _ hv)
        have hf1 := hfl.out k (by omega)
        have hn := hbl2.out k
        have hln : (bs.getD k []).length = n := by have := hsk.len; rw [bv_length] at this; omega
        rw [hln] at hn
        have htf := take_flat hkT
        have htk : bs.take (k + 1) = bs.take k ++ [bs.getD k []] := by
          rw [List.take_add_one]
          simp [List.getD, hkT]
        obtain ⟨l, hl⟩ : ∃ l, l = bs.getD k [] := ⟨_, rfl⟩
        rw [← hl] at hsk hln htf htk
        obtain ⟨F, hF⟩ : ∃ F, F = (bs.take k).flatten := ⟨_, rfl⟩
        rw [← hF] at ho5 hf1 htf
        have q0 : 0 ≤ (k : Int) := by omega
        have q1 : (k : Int) < (pn : Int) := by omega
        have hsz := hs.size
        have hskr := hsk.same hs
        clear hv hcell hl hF
        replace htf := Lib.hid htf
        replace htk := Lib.hid htk
        replace hln := Lib.hid hln
        replace hne := Lib.hid hne
        replace ho6 := Lib.hid ho6
        replace hcp := Lib.hid hcp
        replace hs := Lib.hid hs
        go_wp2_with (at_builtin; refine append_sl rfl _ _ rfl byT ho5 rfl rfl hskr bv_cell hsz (by omega) (by omega) ?_)
        intro v5' w2 ho5' hk2 hat2
        rw [← bv_append] at ho5'
        have hs2 : Same w0 w2 := hs.out.keep hk2 (fun x hx hv => by have := ho5.base x hv; omega)
        have ho62 := ho6.out.keep hk2 (fun b hb hv => hne.out b hv hb)
        have hcp2 := hcp.out.grow5 hk2 (fun x hx => (hat2 x hx).imp id (fun h => Nat.le_of_eq h))
        have hne2 : ∀ b, v5'.ownBlock = some b → u6.ownBlock ≠ some b := fun b hb h6 => by
          rcases hat2 b hb with h | h
          · exact hne.out b h h6
          · have := ho6.out.lt b h6
            omega
        have hsz2 := hs2.size
        have hsk2 := (hsk.same hs2).same (Same.alloc Same.refl (.cells #[] 5))
        have hown := Own.empty w2 5 1
        clear hk2 hat2 hskr
        replace ho5' := Lib.hid ho5'
        replace ho62 := Lib.hid ho62
        replace hcp2 := Lib.hid hcp2
        replace hne2 := Lib.hid hne2
        replace hs2 := Lib.hid hs2
        go_wp2_with (at_builtin; refine append_sl rfl _ _ rfl byT hown rfl rfl hsk2 bv_cell (by simp) (by omega) (by omega) ?_)
        intro v7 w3 ho7 hk3 hat3
        have hs13 : Same w2 w3 := (Same.alloc Same.refl _).keep hk3 (fun x hx hv => by simp [Value.ownBlock] at hv; omega)
        have ho53 := ho5'.out.same hs13
        have ho63 := ho62.out.same hs13
        have hcp3 := hcp2.out.same hs13
        have hs3 := hs2.out.trans hs13
        have hsz3 := hs3.size
        obtain ⟨ca, cc3, rfl, hcsl⟩ := ho7.sl
        have hcb : ∀ b, ca = some b → w2.heap.size ≤ b.block ∧ b.block < w3.heap.size := fun b hb => by
          subst hb
          exact ⟨ho7.base b.block rfl, ho7.lt b.block rfl⟩
        clear hs13 hk3 hat3 hown hsk2 ho7
        replace ho53 := Lib.hid ho53
        replace hcp3 := Lib.hid hcp3
        replace hs3 := Lib.hid hs3
        replace hcsl := Lib.hid hcsl
        replace hcb := Lib.hid hcb
        go_wp2_with (at_builtin; refine append_own (l := [.slice ca n cc3]) rfl _ _ rfl rowT ho63 rfl rfl rfl (by simp [Value.oneCell']) hsz3 (by omega) (by omega) ?_)
        intro v6' w4 ho6' hk4 hat4
        have hcpf : Copies w4 w0.heap.size v5' v6' (cs ++ [.slice ca n cc3]) (bs.take (k + 1)) := by
          rw [htk.out]
          refine (hcp3.out.grow6 hk4 hat4).snoc (hcsl.out.keep hk4 fun b hb _ hx => ?_) fun b hb => ?_
          · have := (hcb.out b hb).1
            have := ho62.out.lt _ hx
            omega
          · obtain ⟨g1, g2⟩ := hcb.out b hb
            have hks := hk4.size
            have hs2z := hs2.out.size
            refine ⟨by omega, by omega, fun h5 => ?_, fun h6 => ?_⟩
            · have := ho5'.out.lt _ h5
              omega
            · rcases hat4 _ h6 with h6 | h6
              · have := ho62.out.lt _ h6
                omega
              · omega
        have ho54 := ho53.out.keep hk4 (fun b hb hv => hne2.out b hb hv)
        have hne4 : ∀ b, v5'.ownBlock = some b → v6'.ownBlock ≠ some b := fun b hb h6 => by
          rcases hat4 _ h6 with h6 | h6
          · exact hne2.out b hb h6
          · have := ho53.out.lt b hb
            omega
        have hs4 := hs3.out.keep hk4 (fun x hx hv => by have := ho63.base x hv; omega)
        have hFl : (bs.take (k + 1)).flatten.length = F.length + n := by rw [htf.out, List.length_append, hln.out]
        rw [← hFl, ← htf.out] at ho54
        clear hk4 hat4
        go_wp2
        go_roundw
        case rel => exact ⟨k + 1, _, by omega, by go_num, ho54, ho6', hcpf, hne4, hs4⟩
        case measure => simp [intOf]; omega
        -- A]]
      · obtain rfl : k = pn := by omega
        have eT : bs.take k = bs := List.take_of_length_le (by rw [hlen.out]; exact Nat.le_refl _)
        have hfk := hfl.out k (Nat.le_refl _)
        rw [eT] at ho5 hcp hfk
        have hsls := hcp.sls
        obtain ⟨ao, ac, rfl, hasl⟩ := ho5.sl
        obtain ⟨oo, oc, rfl, hosl⟩ := ho6.sl
        obtain ⟨F, hF⟩ : ∃ F, F = bs.flatten := ⟨_, rfl⟩
        have hbig : bs.flatten.length < 2 ^ 49 := Nat.lt_of_le_of_lt hfk (by decide)
        have hsum := fun w h1 h2 => sum_any oo k oc cs bs w h1 h2 (Nat.lt_of_lt_of_le hbig (by decide))
        have hchn := fun w h1 h2 => chain_any d hd oo k oc cs bs w h1 h2 hbig
        rw [← hF] at hasl hfk hsum hchn
        rw [← hF]
        have hrs := fun w h => rsum_any ao F.length ac F w h (by omega)
        have hrc := fun w h => rchain_any d hd ao F.length ac F w h (by omega)
        have e1 := fun w => dig_neq (Sha.sum F) (Sha.sum F) (Sha.sum_length _) (Sha.sum_length _) w
        have e2 := fun w => dig_neq (Sha.sum (d ++ F)) (Sha.sum (d ++ F)) (Sha.sum_length _) (Sha.sum_length _) w
        rw [show ((Sha.sum F != Sha.sum F) = false) from by simp] at e1
        rw [show ((Sha.sum (d ++ F) != Sha.sum (d ++ F)) = false) from by simp] at e2
        obtain ⟨D, hD⟩ : ∃ D, D = Sha.sum F := ⟨_, rfl⟩
        obtain ⟨E, hE⟩ : ∃ E, E = Sha.sum (d ++ F) := ⟨_, rfl⟩
        rw [← hD] at hsum hrs e1
        rw [← hE] at hchn hrc e2
        have hbx2 := (hs.block _ hb0).trans hbx.out
        have hbl3 := blk_lt hbx2
        clear hD hE hF hbig eT hcp ho5 ho6 hlt
        replace hbx2 := Lib.hid hbx2
        replace hsum := Lib.hid hsum
        replace hchn := Lib.hid hchn
        replace hrs := Lib.hid hrs
        replace hrc := Lib.hid hrc
        replace e1 := Lib.hid e1
        replace e2 := Lib.hid e2
        replace hsls := Lib.hid hsls
        replace hasl := Lib.hid hasl
        replace hosl := Lib.hid hosl
        replace hs := Lib.hid hs
        obtain ⟨fl, hfl2⟩ : ∃ fl, fl = F.length := ⟨_, rfl⟩
        rw [← hfl2] at hrs hrc hasl
        rw [← hfl2]
        clear hfl2
        go_upto_region 11 with fail
        go_cut [43] (fun v wx => v = .bool false ∧ Same wr wx)
        case first =>
          refine wp_region_tails (by kernel_rfl) [(30, 0), (31, 1), (32, 2), (33, 3), (34, 4), (35, 5), (36, 6), (37, 7), (38, 8), (39, 9), (40, 10), (41, 11), (42, 12)] Same (Same _) [isV (.slice oo k oc), isV (.agg (bv D).toArray), isV (.slice ao fl ac), isV (.agg (bv D).toArray), isV (.bool false), isV (.bool false), isV (.agg (bv d).toArray), isV (.slice oo k oc), isV (.agg (bv E).toArray), isV (.agg (bv d).toArray), isV (.slice ao fl ac), isV (.agg (bv E).toArray), isV (.bool false)] Same.refl.drew (fun _ _ h k => h.trans k) (by simp [isV_stable, isB_stable, isAny_stable]) (by decide) (l := [_, _, _, _, _, _, _, _, _, _, _, _, _]) rfl (by decide) (by kernel_rfl) ?_ ?_
          · refine ⟨?_, ?_, ?_, ?_, ?_, ?_, ?_, ?_, ?_, ?_, ?_, ?_, ?_, trivial⟩
            all_goals (intro u wx hI hp; simp only [mkAct, List.foldl_cons, List.foldl_nil, List.setIfInBounds_toArray, List.set_cons_succ, List.set_cons_zero])
            · -- operation 0
              go_wp2
              refine stq_v rfl Same.refl ?_
              first | (simp only [mkAct, List.foldl_cons, List.foldl_nil, List.setIfInBounds_toArray, List.set_cons_succ, List.set_cons_zero, upd, reduceIte, Nat.reduceEqDiff, Nat.reduceAdd, str]; done) | (simp [mkAct, upd, str, *]; done)
            · -- operation 1
              obtain ⟨f0, -⟩ := hp
              replace f0 : u 0 = (.slice oo k oc) := f0
              try simp only [f0, str]
              go_wp2_with fail
              refine (hsum.out _ (hosl.out.same hI) (hsls.out.same hI)).mono ?_
              rintro e w1 ⟨rfl, hs'⟩
              go_wp2
              refine stq_v rfl hs' ?_
              first | (simp only [mkAct, List.foldl_cons, List.foldl_nil, List.setIfInBounds_toArray, List.set_cons_succ, List.set_cons_zero, upd, reduceIte, Nat.reduceEqDiff, Nat.reduceAdd, f0, str]; done) | (simp [mkAct, upd, f0, str, *]; done)
            · -- operation 2
              go_wp2
              refine stq_v rfl Same.refl ?_
              first | (simp only [mkAct, List.foldl_cons, List.foldl_nil, List.setIfInBounds_toArray, List.set_cons_succ, List.set_cons_zero, upd, reduceIte, Nat.reduceEqDiff, Nat.reduceAdd, str]; done) | (simp [mkAct, upd, str, *]; done)
            · -- operation 3
              obtain ⟨f2, -, -⟩ := hp
              replace f2 : u 2 = (.slice ao fl ac) := f2
              try simp only [f2, str]
              go_wp2_with fail
              refine (hrs.out _ (hasl.out.same hI)).mono ?_
              rintro e w1 ⟨rfl, hs'⟩
              go_wp2
              refine stq_v rfl hs' ?_
              first | (simp only [mkAct, List.foldl_cons, List.foldl_nil, List.setIfInBounds_toArray, List.set_cons_succ, List.set_cons_zero, upd, reduceIte, Nat.reduceEqDiff, Nat.reduceAdd, f2, str]; done) | (simp [mkAct, upd, f2, str, *]; done)
            · -- operation 4
              obtain ⟨f1, f3, -⟩ := hp
              replace f1 : u 1 = (.agg (bv D).toArray) := f1
              replace f3 : u 3 = (.agg (bv D).toArray) := f3
              try simp only [f1, f3, str]
              have e1 := e1.out
              have hgd := dig_guard
              go_wp2
              refine stq_v rfl Same.refl ?_
              first | (simp only [mkAct, List.foldl_cons, List.foldl_nil, List.setIfInBounds_toArray, List.set_cons_succ, List.set_cons_zero, upd, reduceIte, Nat.reduceEqDiff, Nat.reduceAdd, f1, f3, str]; done) | (simp [mkAct, upd, f1, f3, str, *]; done)
            · -- operation 5
              obtain ⟨f4, -, -⟩ := hp
              replace f4 : u 4 = (.bool false) := f4
              try simp only [f4, str]
              go_wp2
              refine stq_v rfl Same.refl ?_
              first | (simp only [mkAct, List.foldl_cons, List.foldl_nil, List.setIfInBounds_toArray, List.set_cons_succ, List.set_cons_zero, upd, reduceIte, Nat.reduceEqDiff, Nat.reduceAdd, f4, str]; done) | (simp [mkAct, upd, f4, str, *]; done)
            · -- operation 6
              obtain ⟨f5, -⟩ := hp
              replace f5 : u 5 = (.bool false) := f5
              try simp only [f5, str]
              go_wp2_with (refine load_row rfl _ _ rfl w.heap.size rfl _ _ _ _ ((hI.block _ hbl3).trans hbx2.out) Try.underlying28 rfl hinf.out ?_)
              refine stq_v rfl Same.refl ?_
              first | (simp only [mkAct, List.foldl_cons, List.foldl_nil, List.setIfInBounds_toArray, List.set_cons_succ, List.set_cons_zero, upd, reduceIte, Nat.reduceEqDiff, Nat.reduceAdd, f5, str]; done) | (simp [mkAct, upd, f5, str, *]; done)
            · -- operation 7
              obtain ⟨f5, -⟩ := hp
              replace f5 : u 5 = (.bool false) := f5
              try simp only [f5, str]
              go_wp2
              refine stq_v rfl Same.refl ?_
              first | (simp only [mkAct, List.foldl_cons, List.foldl_nil, List.setIfInBounds_toArray, List.set_cons_succ, List.set_cons_zero, upd, reduceIte, Nat.reduceEqDiff, Nat.reduceAdd, f5, str]; done) | (simp [mkAct, upd, f5, str, *]; done)
            · -- operation 8
              obtain ⟨f6, f7, -, f5, -⟩ := hp
              replace f6 : u 6 = (.agg (bv d).toArray) := f6
              replace f7 : u 7 = (.slice oo k oc) := f7
              replace f5 : u 5 = (.bool false) := f5
              try simp only [f6, f7, f5, str]
              go_wp2_with fail
              refine (hchn.out _ (hosl.out.same hI) (hsls.out.same hI)).mono ?_
              rintro e w1 ⟨rfl, hs'⟩
              go_wp2
              refine stq_v rfl hs' ?_
              first | (simp only [mkAct, List.foldl_cons, List.foldl_nil, List.setIfInBounds_toArray, List.set_cons_succ, List.set_cons_zero, upd, reduceIte, Nat.reduceEqDiff, Nat.reduceAdd, f6, f7, f5, str]; done) | (simp [mkAct, upd, f6, f7, f5, str, *]; done)
            · -- operation 9
              obtain ⟨f5, -⟩ := hp
              replace f5 : u 5 = (.bool false) := f5
              try simp only [f5, str]
              go_wp2_with (refine load_row rfl _ _ rfl w.heap.size rfl _ _ _ _ ((hI.block _ hbl3).trans hbx2.out) Try.underlying28 rfl hinf.out ?_)
              refine stq_v rfl Same.refl ?_
              first | (simp only [mkAct, List.foldl_cons, List.foldl_nil, List.setIfInBounds_toArray, List.set_cons_succ, List.set_cons_zero, upd, reduceIte, Nat.reduceEqDiff, Nat.reduceAdd, f5, str]; done) | (simp [mkAct, upd, f5, str, *]; done)
            · -- operation 10
              obtain ⟨f5, -⟩ := hp
              replace f5 : u 5 = (.bool false) := f5
              try simp only [f5, str]
              go_wp2
              refine stq_v rfl Same.refl ?_
              first | (simp only [mkAct, List.foldl_cons, List.foldl_nil, List.setIfInBounds_toArray, List.set_cons_succ, List.set_cons_zero, upd, reduceIte, Nat.reduceEqDiff, Nat.reduceAdd, f5, str]; done) | (simp [mkAct, upd, f5, str, *]; done)
            · -- operation 11
              obtain ⟨f9, f10, -, f5, -⟩ := hp
              replace f9 : u 9 = (.agg (bv d).toArray) := f9
              replace f10 : u 10 = (.slice ao fl ac) := f10
              replace f5 : u 5 = (.bool false) := f5
              try simp only [f9, f10, f5, str]
              go_wp2_with fail
              refine (hrc.out _ (hasl.out.same hI)).mono ?_
              rintro e w1 ⟨rfl, hs'⟩
              go_wp2
              refine stq_v rfl hs' ?_
              first | (simp only [mkAct, List.foldl_cons, List.foldl_nil, List.setIfInBounds_toArray, List.set_cons_succ, List.set_cons_zero, upd, reduceIte, Nat.reduceEqDiff, Nat.reduceAdd, f9, f10, f5, str]; done) | (simp [mkAct, upd, f9, f10, f5, str, *]; done)
            · -- operation 12
              obtain ⟨f8, f11, f5, -⟩ := hp
              replace f8 : u 8 = (.agg (bv E).toArray) := f8
              replace f11 : u 11 = (.agg (bv E).toArray) := f11
              replace f5 : u 5 = (.bool false) := f5
              try simp only [f8, f11, f5, str]
              have e2 := e2.out
              have hgd := dig_guard
              go_wp2
              refine stq_v rfl Same.refl ?_
              first | (simp only [mkAct, List.foldl_cons, List.foldl_nil, List.setIfInBounds_toArray, List.set_cons_succ, List.set_cons_zero, upd, reduceIte, Nat.reduceEqDiff, Nat.reduceAdd, f8, f11, f5, str]; done) | (simp [mkAct, upd, f8, f11, f5, str, *]; done)
          · intro u wx hI hR
            obtain ⟨r0, r1, r2, r3, r4, r5, r6, r7, r8, r9, r10, r11, r12, -⟩ := hR
            replace r0 : u 0 = (.slice oo k oc) := r0
            replace r1 : u 1 = (.agg (bv D).toArray) := r1
            replace r2 : u 2 = (.slice ao fl ac) := r2
            replace r3 : u 3 = (.agg (bv D).toArray) := r3
            replace r4 : u 4 = (.bool false) := r4
            replace r5 : u 5 = (.bool false) := r5
            replace r6 : u 6 = (.agg (bv d).toArray) := r6
            replace r7 : u 7 = (.slice oo k oc) := r7
            replace r8 : u 8 = (.agg (bv E).toArray) := r8
            replace r9 : u 9 = (.agg (bv d).toArray) := r9
            replace r10 : u 10 = (.slice ao fl ac) := r10
            replace r11 : u 11 = (.agg (bv E).toArray) := r11
            replace r12 : u 12 = (.bool false) := r12
            simp only [mkAct, List.foldl_cons, List.foldl_nil, List.setIfInBounds_toArray, List.set_cons_succ, List.set_cons_zero]
            try simp only [str, r0, r1, r2, r3, r4, r5, r6, r7, r8, r9, r10, r11, r12]
            go_wp2_with fail
            go_meet
            exact ⟨rfl, hI⟩
        case rest =>
          obtain ⟨rfl, hs11⟩ := hcut
          have hs12 : Same w0 wc := hs.out.trans hs11
          have hosl2 := hosl.out.same hs11
          have hsls2 := hsls.out.same hs11
          have hsl2 := hsl0.out.same hs12
          have hp2 := hp0.out.same hs12
          clear hs11 hsum hchn hrc hrs hosl hsls hsl0 hp0 hs e1 e2 hasl hlight hl0 hsl hbx2
          replace hosl2 := Lib.hid hosl2
          replace hsls2 := Lib.hid hsls2
          replace hsl2 := Lib.hid hsl2
          replace hp2 := Lib.hid hp2
          replace hs12 := Lib.hid hs12
          go_wp2
          go_loopw [46] (fun i wx => ∃ j : Nat, j ≤ k ∧ i = .int .i64 j ∧ Same wc wx) (fun i _ => k - (intOf i).toNat)
          case atStart => exact ⟨0, by omega, rfl, Same.refl⟩
          case round =>
            obtain ⟨j, hj, rfl, hs⟩ := hrel
            by_cases hlt : j < k
            · -- [[C
              have hjT : j < bs.length := by rw [hlen.out]; exact hlt
              obtain ⟨a1, n1, c1, hv1, hk1⟩ := hsls2.out.2 j hjT
              obtain ⟨a2, n2, c2, hv2, hk2⟩ := hp2.out.2 j hjT
              have hcs : cs ≠ [] := by
                rintro rfl
                have := hsls2.out.1
                simp at this
                omega
              have hvs : vs ≠ [] := by
                rintro rfl
                have := hp2.out.1
                simp at this
                omega
              obtain ⟨b1, o1, rfl, hb1, hcell1⟩ := hosl2.out.at hcs
              obtain ⟨b2, o2, rfl, hb2, hcell2⟩ := hsl2.out.at hvs
              have cc1 := hs.cell (hcell1 j _ hv1)
              have cc2 := hs.cell (hcell2 j _ hv2)
              replace hk1 := hk1.same hs
              replace hk2 := hk2.same hs
              obtain ⟨l, hl⟩ : ∃ l, l = bs.getD j [] := ⟨_, rfl⟩
              rw [← hl] at hk1 hk2
              have q0 : 0 ≤ (j : Int) := by omega
              have q1 : (j : Int) < (k : Int) := by omega
              clear hl hv1 hv2 hcell1 hcell2
              replace hk1 := Lib.hid hk1
              replace hk2 := Lib.hid hk2
              replace hs := Lib.hid hs
              replace cc1 := Lib.hid cc1
              replace cc2 := Lib.hid cc2
              go_wp2
              refine wp_region_tails (by kernel_rfl) [(49, 0), (50, 1), (51, 2), (52, 3), (53, 4), (54, 5), (55, 6), (56, 7), (57, 8), (58, 9)] Same (Same _) [isV (.slice (some ⟨b1, o1, none⟩) k oc), isV (.int .i64 (j : Int)), isV (.pointer (some ⟨b1, o1 + j, none⟩)), isV (.slice a1 n1 c1), isV (str l), isV (.slice (some ⟨b2, o2, none⟩) k pc), isV (.int .i64 (j : Int)), isV (.pointer (some ⟨b2, o2 + j, none⟩)), isV (.slice a2 n2 c2), isV (str l)] Same.refl.drew (fun _ _ h k => h.trans k) (by simp [isV_stable, isB_stable, isAny_stable]) (by decide) (l := [_, _, _, _, _, _, _, _, _, _]) rfl (by decide) (by kernel_rfl) ?_ ?_
              · refine ⟨?_, ?_, ?_, ?_, ?_, ?_, ?_, ?_, ?_, ?_, trivial⟩
                all_goals (intro u wx hI hp; simp only [mkAct, List.foldl_cons, List.foldl_nil, List.setIfInBounds_toArray, List.set_cons_succ, List.set_cons_zero])
                · -- operation 0
                  go_wp2
                  refine stq_v rfl Same.refl ?_
                  first | (simp only [mkAct, List.foldl_cons, List.foldl_nil, List.setIfInBounds_toArray, List.set_cons_succ, List.set_cons_zero, upd, reduceIte, Nat.reduceEqDiff, Nat.reduceAdd, str]; done) | (simp [mkAct, upd, str, *]; done)
                · -- operation 1
                  go_wp2
                  refine stq_v rfl Same.refl ?_
                  first | (simp only [mkAct, List.foldl_cons, List.foldl_nil, List.setIfInBounds_toArray, List.set_cons_succ, List.set_cons_zero, upd, reduceIte, Nat.reduceEqDiff, Nat.reduceAdd, str]; done) | (simp [mkAct, upd, str, *]; done)
                · -- operation 2
                  obtain ⟨f0, f1, -⟩ := hp
                  replace f0 : u 0 = (.slice (some ⟨b1, o1, none⟩) k oc) := f0
                  replace f1 : u 1 = (.int .i64 (j : Int)) := f1
                  try simp only [f0, f1, str]
                  go_wp2
                  refine stq_v rfl Same.refl ?_
                  first | (simp only [mkAct, List.foldl_cons, List.foldl_nil, List.setIfInBounds_toArray, List.set_cons_succ, List.set_cons_zero, upd, reduceIte, Nat.reduceEqDiff, Nat.reduceAdd, f0, f1, str]; done) | (simp [mkAct, upd, f0, f1, str, *]; done)
                · -- operation 3
                  obtain ⟨f2, -⟩ := hp
                  replace f2 : u 2 = (.pointer (some ⟨b1, o1 + j, none⟩)) := f2
                  try simp only [f2, str]
                  have cx := hI.cell cc1.out
                  go_wp2
                  refine stq_v rfl Same.refl ?_
                  first | (simp only [mkAct, List.foldl_cons, List.foldl_nil, List.setIfInBounds_toArray, List.set_cons_succ, List.set_cons_zero, upd, reduceIte, Nat.reduceEqDiff, Nat.reduceAdd, f2, str]; done) | (simp [mkAct, upd, f2, str, *]; done)
                · -- operation 4
                  obtain ⟨f3, -⟩ := hp
                  replace f3 : u 3 = (.slice a1 n1 c1) := f3
                  try simp only [f3, str]
                  go_wp2_with (refine conv_string rfl _ rfl byT u8T strT rfl (hk1.out.same hI) ?_)
                  refine stq_v rfl Same.refl ?_
                  first | (simp only [mkAct, List.foldl_cons, List.foldl_nil, List.setIfInBounds_toArray, List.set_cons_succ, List.set_cons_zero, upd, reduceIte, Nat.reduceEqDiff, Nat.reduceAdd, f3, str]; done) | (simp [mkAct, upd, f3, str, *]; done)
                · -- operation 5
                  go_wp2
                  refine stq_v rfl Same.refl ?_
                  first | (simp only [mkAct, List.foldl_cons, List.foldl_nil, List.setIfInBounds_toArray, List.set_cons_succ, List.set_cons_zero, upd, reduceIte, Nat.reduceEqDiff, Nat.reduceAdd, str]; done) | (simp [mkAct, upd, str, *]; done)
                · -- operation 6
                  go_wp2
                  refine stq_v rfl Same.refl ?_
                  first | (simp only [mkAct, List.foldl_cons, List.foldl_nil, List.setIfInBounds_toArray, List.set_cons_succ, List.set_cons_zero, upd, reduceIte, Nat.reduceEqDiff, Nat.reduceAdd, str]; done) | (simp [mkAct, upd, str, *]; done)
                · -- operation 7
                  obtain ⟨f5, f6, -⟩ := hp
                  replace f5 : u 5 = (.slice (some ⟨b2, o2, none⟩) k pc) := f5
                  replace f6 : u 6 = (.int .i64 (j : Int)) := f6
                  try simp only [f5, f6, str]
                  go_wp2
                  refine stq_v rfl Same.refl ?_
                  first | (simp only [mkAct, List.foldl_cons, List.foldl_nil, List.setIfInBounds_toArray, List.set_cons_succ, List.set_cons_zero, upd, reduceIte, Nat.reduceEqDiff, Nat.reduceAdd, f5, f6, str]; done) | (simp [mkAct, upd, f5, f6, str, *]; done)
                · -- operation 8
                  obtain ⟨f7, -⟩ := hp
                  replace f7 : u 7 = (.pointer (some ⟨b2, o2 + j, none⟩)) := f7
                  try simp only [f7, str]
                  have cx := hI.cell cc2.out
                  go_wp2
                  refine stq_v rfl Same.refl ?_
                  first | (simp only [mkAct, List.foldl_cons, List.foldl_nil, List.setIfInBounds_toArray, List.set_cons_succ, List.set_cons_zero, upd, reduceIte, Nat.reduceEqDiff, Nat.reduceAdd, f7, str]; done) | (simp [mkAct, upd, f7, str, *]; done)
                · -- operation 9
                  obtain ⟨f8, -⟩ := hp
                  replace f8 : u 8 = (.slice a2 n2 c2) := f8
                  try simp only [f8, str]
                  go_wp2_with (refine conv_string rfl _ rfl byT u8T strT rfl (hk2.out.same hI) ?_)
                  refine stq_v rfl Same.refl ?_
                  first | (simp only [mkAct, List.foldl_cons, List.foldl_nil, List.setIfInBounds_toArray, List.set_cons_succ, List.set_cons_zero, upd, reduceIte, Nat.reduceEqDiff, Nat.reduceAdd, f8, str]; done) | (simp [mkAct, upd, f8, str, *]; done)
              · intro u wx hI hR
                obtain ⟨r0, r1, r2, r3, r4, r5, r6, r7, r8, r9, -⟩ := hR
                replace r0 : u 0 = (.slice (some ⟨b1, o1, none⟩) k oc) := r0
                replace r1 : u 1 = (.int .i64 (j : Int)) := r1
                replace r2 : u 2 = (.pointer (some ⟨b1, o1 + j, none⟩)) := r2
                replace r3 : u 3 = (.slice a1 n1 c1) := r3
                replace r4 : u 4 = (str l) := r4
                replace r5 : u 5 = (.slice (some ⟨b2, o2, none⟩) k pc) := r5
                replace r6 : u 6 = (.int .i64 (j : Int)) := r6
                replace r7 : u 7 = (.pointer (some ⟨b2, o2 + j, none⟩)) := r7
                replace r8 : u 8 = (.slice a2 n2 c2) := r8
                replace r9 : u 9 = (str l) := r9
                simp only [mkAct, List.foldl_cons, List.foldl_nil, List.setIfInBounds_toArray, List.set_cons_succ, List.set_cons_zero]
                try simp only [str, r0, r1, r2, r3, r4, r5, r6, r7, r8, r9]
                go_wp2
                go_roundw
                case rel => exact ⟨j + 1, by omega, by go_num, hs.out.trans hI⟩
                case measure => simp [intOf]; omega
              -- C]]
            · obtain rfl : j = k := by omega
              go_wp2_with fail
              refine (hlives.out _).mono ?_
              rintro e w7 ⟨rfl, hs7⟩
              go_wp2
              go_ret
              exact ⟨rfl, ((hs0.out.trans hs12.out).trans hs).trans hs7⟩
  · have hLB : LightB bs = false := by simp [LightB, hL]
    rw [hLB] at hlight
    clear hLB
    replace hlight := Lib.hid hlight
    replace hsl := Lib.hid hsl
    replace hp := Lib.hid hp
    go_enter Try.func5, Try.ntmps5
    go_wp2_with (refine box_row rfl _ _ rfl _ rfl hinf.out ?_; intro w0 hbx hs0; clear hbx; have hsl0 := hsl.out.same hs0; have hp0 := hp.out.same hs0; replace hs0 := Lib.hid hs0)
    have hl0 := Lib.hid (hlight.out _ hsl0 hp0)
    clear hsl0 hp0
    go_wp2_with fail
    refine (hl0.out).mono ?_
    rintro e w1 ⟨rfl, rfl⟩
    go_wp2_with fail
    refine (hlives.out _).mono ?_
    rintro e w7 ⟨rfl, hs7⟩
    go_wp2
    go_ret
    exact ⟨rfl, hs0.out.trans hs7⟩
theorem walk_DigestSums (w : World) (a : (Option Addr × Nat × Nat) × List ((Option Addr × Nat × Nat) × List UInt8)) (ha : Sl w 1 a.1.1 a.1.2.1 a.1.2.2 (a.2.map fun x => .slice x.1.1 x.1.2.1 x.1.2.2) ∧ (∀ x ∈ a.2, Sl w 1 x.1.1 x.1.2.1 x.1.2.2 (bv x.2) ∧ x.1.2.2 ≤ 140737488351232) ∧ a.1.2.2 * 24 ≤ 140737488351232) (d : List UInt8) (hd : d.length = 32) :
    Calls Try.prog 5 #[.slice a.1.1 a.1.2.1 a.1.2.2, .agg (bv d).toArray] w fun e w' => e = .returned (.bool true) ∧ Same w w' := by
  obtain ⟨h1, h2, h3⟩ := ha
  refine sums_main w _ _ _ _ _ h1 (sls_of a.2 fun x hx => (h2 x hx).1) h3 ?_ d hd
  intro j
  by_cases hj : j < a.2.length
  · obtain ⟨h4, h5⟩ := h2 _ (List.getElem_mem hj)
    have h6 := h4.len
    have h7 := h4.cap
    rw [bv_length] at h6
    have h8 : (a.2.map (·.2)).getD j [] = a.2[j].2 := by simp [List.getD, hj]
    rw [h8]
    omega
  · rw [List.getD, List.getElem?_eq_none (by simpa using hj)]
    simp
end Go.Proofs.Yteokeidclgfgnaa
