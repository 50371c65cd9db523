/-
  Slots: the chapter's example; votes, certs that came in.
-/
import Derived.Test.YtgdkhiihdoekaaaSlot3
import Derived.Test.YtgdkhiihdoekaaaBatH
namespace Go.Proofs.Ytgdkhiihdoekaaa
open Go Go.RowKit
set_option linter.unusedSimpArgs false
set_option linter.unusedVariables false

set_option maxRecDepth 100000
def vP : List (Nat × Nat) := [(0, 1), (1, 1), (2, 1), (3, 1), (4, 32)]
theorem vote_built1 (k v : Int) (d : List UInt8) (h : d.length = 32) : Try.prog.built 31 [(0, .int .i64 k), (2, .int .i64 v), (4, .agg (bv d).toArray)] = some (VoteV.cells ⟨k, 0, v, 0, d⟩).toArray := by
  refine built_struct (z := .agg zeroVote.cells.toArray) (places := vP) (by kernel_rfl) Try.underlying31 (by kernel_rfl) ?_
  have e0 := fill_step (place := (vP.toArray[·]?)) (i := 0) (v := .int .i64 k) (A := [.int .i64 k]) (pre := []) (mid := [.int .i64 0]) (post := [.int .i64 0, .int .i64 0, .int .i64 0] ++ bv (List.replicate 32 0)) (rest := [(2, .int .i64 v), (4, .agg (bv d).toArray)]) rfl rfl rfl
  have e1 := fill_step (place := (vP.toArray[·]?)) (i := 2) (v := .int .i64 v) (A := [.int .i64 v]) (pre := [.int .i64 k, .int .i64 0]) (mid := [.int .i64 0]) (post := [.int .i64 0] ++ bv (List.replicate 32 0)) (rest := [(4, .agg (bv d).toArray)]) rfl rfl rfl
  have e2 := fill_step (place := (vP.toArray[·]?)) (i := 4) (v := .agg (bv d).toArray) (A := bv d) (pre := [.int .i64 k, .int .i64 0, .int .i64 v, .int .i64 0]) (mid := bv (List.replicate 32 0)) (post := []) (rest := []) (by rw [bv_length, h]; rfl) rfl (by rw [bv_length, bv_length, h]; rfl)
  refine e0.trans (e1.trans ?_)
  rw [List.append_nil, List.append_nil] at e2
  exact e2.trans (by simp [VoteV.cells, Instr.fill])
theorem vote_built2 (k : Int) (d : List UInt8) (h : d.length = 32) : Try.prog.built 31 [(0, .int .i64 k), (4, .agg (bv d).toArray)] = some (VoteV.cells ⟨k, 0, 0, 0, d⟩).toArray := by
  refine built_struct (z := .agg zeroVote.cells.toArray) (places := vP) (by kernel_rfl) Try.underlying31 (by kernel_rfl) ?_
  have e0 := fill_step (place := (vP.toArray[·]?)) (i := 0) (v := .int .i64 k) (A := [.int .i64 k]) (pre := []) (mid := [.int .i64 0]) (post := [.int .i64 0, .int .i64 0, .int .i64 0] ++ bv (List.replicate 32 0)) (rest := [(4, .agg (bv d).toArray)]) rfl rfl rfl
  have e2 := fill_step (place := (vP.toArray[·]?)) (i := 4) (v := .agg (bv d).toArray) (A := bv d) (pre := [.int .i64 k, .int .i64 0, .int .i64 0, .int .i64 0]) (mid := bv (List.replicate 32 0)) (post := []) (rest := []) (by rw [bv_length, h]; rfl) rfl (by rw [bv_length, bv_length, h]; rfl)
  refine e0.trans ?_
  rw [List.append_nil, List.append_nil] at e2
  exact e2.trans (by simp [VoteV.cells, Instr.fill])
theorem cert_built (v : VoteV) (h : v.wf) : Try.prog.built 34 [(0, .agg v.cells.toArray)] = some (CertV.cells ⟨v, none, 0, []⟩).toArray := by
  refine built_struct (z := .agg zeroCert.cells.toArray) (places := [(0, 36), (36, 1)]) (by kernel_rfl) Try.underlying34 (by kernel_rfl) ?_
  have e0 := fill_step (place := (([(0, 36), (36, 1)] : List (Nat × Nat)).toArray[·]?)) (i := 0) (v := .agg v.cells.toArray) (A := v.cells) (pre := []) (mid := zeroVote.cells) (post := [.slice none 0 0]) (rest := []) (by rw [VoteV.len h]; rfl) rfl (by rw [VoteV.len h]; rfl)
  exact e0.trans (by simp [CertV.cells, Instr.fill])
def exD : List UInt8 := bDig noneBat
def exS : SlotV := { zeroSlot with is := true, view := 0, bat := noneBat }
def exC (v : Int) : CertV := ⟨⟨1, 0, v, 0, exD⟩, none, 0, []⟩
def exT : SlotV := { exS with holds := true, hbat := noneBat, hcert := exC 0 }
theorem exC_wf (v : Int) (h : (Lit.int .i64 v).wf = true) : (exC v).vote.wf := ⟨bDig_length _, (by show (Lit.int .i64 1).wf = true; decide), (by show (Lit.int .i64 0).wf = true; decide), h, (by show (Lit.int .i64 0).wf = true; decide)⟩
theorem exC_at (v : Int) (h : (Lit.int .i64 v).wf = true) (w : World) : (exC v).at w := ⟨exC_wf v h, Sl.none w 17, fun s hs => by cases hs⟩
theorem exS_at (w : World) : exS.at w := ⟨by decide, by decide, noneBat_at w, zeroBat_at' w, zeroCert_at w, zeroBat_at' w, zeroCert_at w⟩
theorem exS_wf : exS.wf := zeroSlot_wf
theorem exT_wf : exT.wf := ⟨exC_wf 0 (by decide), zeroVote_wf⟩
theorem ex_acc : zeroSlot.accept 0 noneBat = (exS, 0) := by
  unfold SlotV.accept
  rw [if_neg (by simp [zeroSlot]), if_neg (by simp [zeroSlot])]
  rfl
theorem ex_hold1 : exS.hold (exC 1) = (zeroSlot, 180) := by
  unfold SlotV.hold
  rw [if_neg (by simp [exC]), if_pos (by simp [exC, exS])]
theorem ex_hold0 : exS.hold (exC 0) = (exT, 0) := by
  unfold SlotV.hold
  rw [if_neg (by simp [exC]), if_neg (by simp [exC, exS]), if_neg (by simp [exC, exS, exD]), if_neg (by simp [exS, zeroSlot])]
  rfl
set_option maxRecDepth 100000 in
set_option maxHeartbeats 6400000 in
theorem lives18 (w : World) : Calls Try.prog 21 #[] w fun e w' => e = .returned (.bool true) ∧ Same w w' := by
  have hN := Lib.hid none_any
  have hA : ∀ w, Calls Try.prog 22 #[.agg zeroSlot.cells.toArray, .int .i64 0, .agg #[.bool true, .slice none 0 0]] w fun e w' => e = .returned (.tuple #[.agg exS.cells.toArray, .int .i64 0]) ∧ Same w w' := by
    intro w
    have := acc_any zeroSlot 0 noneBat w (zeroSlot_at w) (noneBat_at w) zeroBat_small noneBat_small
    rw [ex_acc] at this
    exact this
  have hD : ∀ w, Calls Try.prog 79 #[.agg #[.bool true, .slice none 0 0]] w fun e w' => e = .returned (.agg (bv exD).toArray) ∧ Same w w' := fun w => bdig_any noneBat w (noneBat_at w) noneBat_small
  have hH1 : ∀ w, Calls Try.prog 23 #[.agg exS.cells.toArray, .agg (exC 1).cells.toArray] w fun e w' => e = .returned (.tuple #[.agg zeroSlot.cells.toArray, .int .i64 180]) ∧ Same w w' := by
    intro w
    have := hold_any exS (exC 1) w (exS_at w) (exC_at 1 (by decide) w) noneBat_small
    rw [ex_hold1] at this
    exact this
  have hH0 : ∀ w, Calls Try.prog 23 #[.agg exS.cells.toArray, .agg (exC 0).cells.toArray] w fun e w' => e = .returned (.tuple #[.agg exT.cells.toArray, .int .i64 0]) ∧ Same w w' := by
    intro w
    have := hold_any exS (exC 0) w (exS_at w) (exC_at 0 (by decide) w) noneBat_small
    rw [ex_hold0] at this
    exact this
  have hDl : exD.length = 32 := bDig_length _
  have hV1 := vote_built1 1 1 exD hDl
  have hV0 := vote_built2 1 exD hDl
  have hC1 := cert_built ⟨1, 0, 1, 0, exD⟩ (exC_wf 1 (by decide))
  have hC0 := cert_built ⟨1, 0, 0, 0, exD⟩ (exC_wf 0 (by decide))
  have hinfZ := Lib.hid (slot_info zeroSlot_wf)
  have hinfS := Lib.hid (slot_info exS_wf)
  have hinfT := Lib.hid (slot_info exT_wf)
  have hinfd := Lib.hid (dig_info hDl)
  have szS := slot_size zeroSlot_wf exS_wf
  have szT := slot_size exS_wf exT_wf
  have oS := slot_one exS
  have oT := slot_one exT
  have oZ := slot_one zeroSlot
  have cT : ∀ (w : World) (b T : Nat), w.heap[b]? = some (.cells exT.cells.toArray T (0, 0)) → w.cell? ⟨b, 43, none⟩ = some (.bool true) ∧ w.cell? ⟨b, 4, none⟩ = some (.bool true) := by
    intro w b T h
    exact ⟨sl_holds h exT_wf, sl_hbat h 0 _ rfl⟩
  obtain ⟨S, hS⟩ : ∃ S, S = exS.cells.toArray := ⟨_, rfl⟩
  obtain ⟨T, hT⟩ : ∃ S, S = exT.cells.toArray := ⟨_, rfl⟩
  have hZ0 : zeroSlot.cells.toArray = Try.zeroCells40 := by kernel_rfl
  obtain ⟨D, hDe⟩ : ∃ S, S = (bv exD).toArray := ⟨_, rfl⟩
  obtain ⟨C1, hC1e⟩ : ∃ S, S = (exC 1).cells.toArray := ⟨_, rfl⟩
  obtain ⟨C0, hC0e⟩ : ∃ S, S = (exC 0).cells.toArray := ⟨_, rfl⟩
  obtain ⟨V1, hV1e⟩ : ∃ S, S = (VoteV.cells ⟨1, 0, 1, 0, exD⟩).toArray := ⟨_, rfl⟩
  obtain ⟨V0, hV0e⟩ : ∃ S, S = (VoteV.cells ⟨1, 0, 0, 0, exD⟩).toArray := ⟨_, rfl⟩
  have szD : (bv (List.replicate 32 0)).toArray.size = D.size := by rw [hDe, List.size_toArray, List.size_toArray, bv_length, bv_length, hDl]; rfl
  have oD : D.all (·.oneCell') = true := by rw [hDe]; exact all_of bv_cell
  rw [← hS] at hA hH1 hH0 hinfS szS szT oS
  rw [← hT] at hH0 hinfT szT oT
  rw [hZ0] at hA hH1 hinfZ szS oZ
  rw [← hDe] at hD hinfd hV1 hV0
  rw [show (exC 1).cells.toArray = C1 from hC1e.symm] at hH1
  rw [show (exC 0).cells.toArray = C0 from hC0e.symm] at hH0
  rw [← hV1e] at hV1 hC1
  rw [← hV0e] at hV0 hC0
  rw [show (CertV.cells ⟨⟨1, 0, 1, 0, exD⟩, none, 0, []⟩).toArray = C1 from hC1e.symm] at hC1
  rw [show (CertV.cells ⟨⟨1, 0, 0, 0, exD⟩, none, 0, []⟩).toArray = C0 from hC0e.symm] at hC0
  simp only [← hT] at cT
  replace szS := Lib.hid szS
  replace szT := Lib.hid szT
  replace oS := Lib.hid oS
  replace oT := Lib.hid oT
  replace oZ := Lib.hid oZ
  replace szD := Lib.hid szD
  replace oD := Lib.hid oD
  replace hA := Lib.hid hA
  replace hD := Lib.hid hD
  replace hH1 := Lib.hid hH1
  replace hH0 := Lib.hid hH0
  replace hV1 := Lib.hid hV1
  replace hV0 := Lib.hid hV0
  replace hC1 := Lib.hid hC1
  replace hC0 := Lib.hid hC0
  replace cT := Lib.hid cT
  clear hDl hS hT hDe hC1e hC0e hV1e hV0e hZ0
  go_enter Try.func21, Try.ntmps21
  go_wp2_with fail
  refine (hN.out _).mono ?_
  rintro e w1 ⟨rfl, hs1⟩
  replace hs1 := Lib.hid hs1
  go_wp2_with fail
  refine (hA.out _).mono ?_
  rintro e w2 ⟨rfl, hs2⟩
  have hw2 := Lib.hid (hs1.out.trans hs2)
  have z2 := hw2.out.size
  clear hs1 hs2
  go_upto_region 2 with (first | (refine alloc_new rfl 40 rfl Try.zeroCells40 (by kernel_rfl) ?_; intro w3 hz hs3; have l3 := blk_lt hz; replace hz := Lib.hid hz; replace hs3 := Lib.hid hs3) | (refine store_row rfl _ _ _ rfl w2.heap.size S rfl rfl _ _ hz.out hinfS.out szS.out oS.out ?_; intro w4 r1 hk4; replace r1 := Lib.hid r1; replace hk4 := Lib.hid hk4))
  have hs4 : Same w2 w4 := hs3.out.keep hk4.out (fun x hx hv => by omega)
  have hw4 := Lib.hid (hw2.out.trans hs4)
  have l4 := blk_lt r1.out
  clear hs3 hk4 hs4 hz hw2
  go_wp2_with fail
  refine (hN.out _).mono ?_
  rintro e w5 ⟨rfl, hs5⟩
  have hw5 := Lib.hid (hw4.out.trans hs5)
  have r15 := Lib.hid (hs5.at r1.out)
  clear hs5 hw4 r1
  go_wp2_with fail
  refine (hD.out _).mono ?_
  rintro e w6 ⟨rfl, hs6⟩
  have hw6 := Lib.hid (hw5.out.trans hs6)
  have r16 := Lib.hid (hs6.at r15.out)
  clear hs6 hw5 r15
  go_upto_region 3 with (first | (refine alloc_new rfl 29 rfl (bv (List.replicate 32 0)).toArray (by kernel_rfl) ?_; intro w7 hz hs7; have l7 := blk_lt hz; replace hz := Lib.hid hz; replace hs7 := Lib.hid hs7) | (refine store_row rfl _ _ _ rfl w6.heap.size D rfl rfl _ _ hz.out hinfd.out szD.out oD.out ?_; intro w8 rd hk8; replace rd := Lib.hid rd; replace hk8 := Lib.hid hk8))
  have hs8 : Same w6 w8 := hs7.out.keep hk8.out (fun x hx hv => by omega)
  have hw8 := Lib.hid (hw6.out.trans hs8)
  have r18 := Lib.hid (hs8.at r16.out)
  have l8 := blk_lt r16.out
  clear hs7 hk8 hs8 hz hw6 r16
  go_wp2_with (first | (refine load_row rfl _ _ rfl w2.heap.size rfl _ _ _ _ r18.out Try.underlying40 rfl hinfS.out ?_) | (refine load_row rfl _ _ rfl w6.heap.size rfl _ _ _ _ rd.out Try.underlying29 rfl hinfd.out ?_) | (refine build_struct rfl _ _ rfl [(0, .int .i64 1), (2, .int .i64 1), (4, .agg D)] rfl _ hV1.out ?_) | (refine build_struct rfl _ _ rfl [(0, .agg V1)] rfl _ hC1.out ?_))
  refine (hH1.out _).mono ?_
  rintro e w9 ⟨rfl, hs9⟩
  have hw9 := Lib.hid (hw8.out.trans hs9)
  have r19 := Lib.hid (hs9.at r18.out)
  have rd9 := Lib.hid (hs9.at rd.out)
  have z9 := hs9.size
  clear hs9 hw8 r18 rd
  go_upto_region 4 with (first | (refine alloc_new rfl 40 rfl Try.zeroCells40 (by kernel_rfl) ?_; intro w10 hz hs10; have l10 := blk_lt hz; replace hz := Lib.hid hz; replace hs10 := Lib.hid hs10) | (refine store_row rfl _ _ _ rfl w9.heap.size Try.zeroCells40 rfl rfl _ _ hz.out hinfZ.out rfl oZ.out ?_; intro w11 r2 hk11; replace hk11 := Lib.hid hk11; clear r2))
  have hs11 : Same w9 w11 := hs10.out.keep hk11.out (fun x hx hv => by omega)
  have hw11 := Lib.hid (hw9.out.trans hs11)
  have r111 := Lib.hid (hs11.at r19.out)
  have rd11 := Lib.hid (hs11.at rd9.out)
  clear hs10 hk11 hs11 hz hw9 r19 rd9
  go_wp2_with (first | (refine load_row rfl _ _ rfl w2.heap.size rfl _ _ _ _ r111.out Try.underlying40 rfl hinfS.out ?_) | (refine load_row rfl _ _ rfl w6.heap.size rfl _ _ _ _ rd11.out Try.underlying29 rfl hinfd.out ?_) | (refine build_struct rfl _ _ rfl [(0, .int .i64 1), (4, .agg D)] rfl _ hV0.out ?_) | (refine build_struct rfl _ _ rfl [(0, .agg V0)] rfl _ hC0.out ?_))
  refine (hH0.out _).mono ?_
  rintro e w12 ⟨rfl, hs12⟩
  have hw12 := Lib.hid (hw11.out.trans hs12)
  have r112 := Lib.hid (hs12.at r111.out)
  clear hs12 hw11 r111 rd11
  go_wp2_with (refine store_row rfl _ _ _ rfl w2.heap.size T rfl rfl _ _ r112.out hinfT.out szT.out oT.out ?_; intro w13 r113 hk13; have c43 := (cT.out _ _ _ r113).1; have c4 := (cT.out _ _ _ r113).2; replace r113 := Lib.hid r113; replace hk13 := Lib.hid hk13)
  go_ret
  exact ⟨rfl, hw12.out.keep hk13.out (fun x hx hv => by omega)⟩
end Go.Proofs.Ytgdkhiihdoekaaa
namespace Go.Proofs.Ytgdkhiihdoekaaa
open Go Go.ChangeShapes Go.WideShapes Go.ChangeAt Go.RowKit
set_option linter.unusedSimpArgs false
set_option linter.unusedVariables false

set_option maxRecDepth 100000
theorem rd_vote {H : Type} {enc : TypeId × Value → H} {W : World} {cs : List Value} (h : Rd enc W 31 cs) : ∃ v : VoteV, cs = v.cells ∧ v.wf := by
  have hl := (h.struct Try.underlying31).1
  rw [(by kernel_rfl : Try.prog.cellsOf 31 = 36)] at hl
  obtain ⟨a, ha, wa⟩ := (h.field Try.underlying31 0 _ rfl 0 1 rfl (by kernel_rfl)).int Try.underlying3
  obtain ⟨b, hb, wb⟩ := (h.field Try.underlying31 1 _ rfl 1 1 rfl (by kernel_rfl)).int Try.underlying3
  obtain ⟨c, hc, wc⟩ := (h.field Try.underlying31 2 _ rfl 2 1 rfl (by kernel_rfl)).int Try.underlying3
  obtain ⟨d, hd, wd⟩ := (h.field Try.underlying31 3 _ rfl 3 1 rfl (by kernel_rfl)).int Try.underlying3
  obtain ⟨l, ht, wl⟩ := (h.field Try.underlying31 4 _ rfl 4 32 rfl (by kernel_rfl)).bytes Try.underlying29 Try.underlying5 (by kernel_rfl) (by kernel_rfl)
  refine ⟨⟨a, b, c, d, l⟩, ?_, wl, wa, wb, wc, wd⟩
  have e1 : cs = (cs.drop 0).take 1 ++ ((cs.drop 1).take 1 ++ ((cs.drop 2).take 1 ++ ((cs.drop 3).take 1 ++ (cs.drop 4).take 32))) := by
    have e2 : (cs.drop 4).take 32 = cs.drop 4 := List.take_of_length_le (by rw [List.length_drop, hl]; decide)
    rw [e2]
    rcases cs with _ | ⟨x0, cs⟩
    · simp at hl
    rcases cs with _ | ⟨x1, cs⟩
    · simp at hl
    rcases cs with _ | ⟨x2, cs⟩
    · simp at hl
    rcases cs with _ | ⟨x3, cs⟩
    · simp at hl
    rfl
  rw [e1, ha, hb, hc, hd, ht]
  rfl
theorem rd_sign {H : Type} {enc : TypeId × Value → H} {W : World} {cs : List Value} (h : Rd enc W 208 cs) : ∃ s : SignV, cs = s.cells ∧ s.wf := by
  have hl := (h.struct Try.underlying208).1
  rw [(by kernel_rfl : Try.prog.cellsOf 208 = 17)] at hl
  obtain ⟨a, ha, wa⟩ := (h.field Try.underlying208 0 _ rfl 0 1 rfl (by kernel_rfl)).int Try.underlying3
  obtain ⟨l, ht, wl⟩ := (h.field Try.underlying208 1 _ rfl 1 16 rfl (by kernel_rfl)).bytes Try.underlying76 Try.underlying5 (by kernel_rfl) (by kernel_rfl)
  refine ⟨⟨a, l⟩, ?_, wl, wa⟩
  have e1 : cs = (cs.drop 0).take 1 ++ (cs.drop 1).take 16 := by
    have e2 : (cs.drop 1).take 16 = cs.drop 1 := List.take_of_length_le (by rw [List.length_drop, hl]; decide)
    rw [e2]
    rcases cs with _ | ⟨x0, cs⟩
    · simp at hl
    rfl
  rw [e1, ha, ht]
  rfl
theorem rd_cert {H : Type} {enc : TypeId × Value → H} {W : World} {cs : List Value} (h : Rd enc W 34 cs) : ∃ c : CertV, cs = c.cells ∧ c.at W := by
  have hl := (h.struct Try.underlying34).1
  rw [(by kernel_rfl : Try.prog.cellsOf 34 = 37)] at hl
  obtain ⟨v, hv, wv⟩ := rd_vote (h.field Try.underlying34 0 _ rfl 0 36 rfl (by kernel_rfl))
  obtain ⟨ao, ln, cap, L, h1, h2, h3, h4, _⟩ := (h.field Try.underlying34 1 _ rfl 36 1 rfl (by kernel_rfl)).slice Try.underlying32 (by kernel_rfl : Try.prog.cellsOf 208 = 17) (by decide) (by kernel_rfl : Try.prog.bytesOf 208 = 24)
  obtain ⟨l, h5, h6, h7⟩ := flat_many (f := SignV.cells) (p := fun r => r.wf) fun x hx => rd_sign (h4 x hx).2
  have hll : l.length = ln := by rw [h6, h3]
  refine ⟨⟨v, ao, cap, l⟩, ?_, wv, ?_, h7⟩
  · have e1 : cs = (cs.drop 0).take 36 ++ (cs.drop 36).take 1 := by
      have e2 : (cs.drop 36).take 1 = cs.drop 36 := List.take_of_length_le (by rw [List.length_drop, hl]; decide)
      rw [e2, List.drop_zero, List.take_append_drop]
    rw [e1, hv, h1, CertV.cells, hll]
  · simp only
    rw [hll, sv, ← h5]
    exact h2
theorem open_cert {H : Type} {enc : TypeId × Value → H} {W : World} {r : Reach} {b0 : Nat} {v : Value} {d : DataW H} {ps : List MemPlace} (hv : Value.okWide Try.prog W r b0 34 v) (h : DataW.Trod enc Try.prog W 0 (fun _ => true) true 34 v d ps) (hw : ∀ n ∈ DataW.weights Try.prog 34 d, n ≤ 140737488351232) :
    ∃ a : CertV, v = .agg a.cells.toArray ∧ a.at W := by
  obtain ⟨cs, rfl, _⟩ := okWide_struct Try.underlying34 hv
  obtain ⟨a, h1, h2⟩ := rd_cert (Rd.of h hw)
  exact ⟨a, by rw [toList_agg h1], h2⟩
abbrev cert_zero : Value := .agg (CertV.cells zeroCert).toArray
end Go.Proofs.Ytgdkhiihdoekaaa
