/-
  Batches: their digests, by both; the chapter's example.
-/
import Derived.Test.YtmacgmmjgdmleaaBat4
import Derived.Test.YtmacgmmjgdmleaaShaRef3
namespace Go.Proofs.Ytmacgmmjgdmleaa
open Go Go.RowKit
set_option linter.unusedSimpArgs false
set_option linter.unusedVariables false

section
variable {P : Program} {ops : Array Oper} {rest : List Oper} {o : Oper} {a : Act} {Q : Exit → Act → World → Prop} {t u e : TypeId} {z : Value} {sz by_ : Nat}
/-- 'append(b, x...)', b full, whoever's it is, x some elements: a new row. -/
theorem append_fullS {W : World} {b ad : Addr} {n m c2 : Nat} {xs l : List Value} (hg : Region.wanted o (yielded ops a.tmps) = true) (s x : Operand) (ho : o.op = .call { callee := .builtin .append, args := #[s, x], argTypes := #[t, t] })
    (hT : SlT P t e z sz by_) (hsl : Sl W sz (some b) n n xs) (hs : a.eval s = .slice (some b) n n) (hx : a.eval x = .slice (some ad) m c2)
    (hsrc : Sl W sz (some ad) m c2 l) (hm : 0 < m) (h1 : ∀ u ∈ l, u.oneCell' = true) (hmax : (n + m) * by_ ≤ 140737488355328) (hm2 : n + m ≤ 140737488355328)
    (h : ∀ v' w', Own w' W.heap.size e sz v' (n + m) (xs ++ l) → Same W w' → wpList P ops Q rest (a.put o.dst v') w') :
    wpList P ops Q (o :: rest) a W := by
  obtain ⟨i0, hi, hz0, hz1, hz2⟩ := info_parts hT.info
  obtain ⟨v', w', hr, h2, h3⟩ := run_append_arg_grows (P := P) W t o.type e i0 z sz by_ hT.under hi hz0 hz1 hz2 hT.cells hT.pos b n n xs hsl.len (hsl.cell b rfl) ad m c2 l hsrc.len (hsrc.cell ad rfl) (by omega) (by unfold maxLen; omega) hmax
  refine wpL_append hg s x ho hs hx hr (h v' w' (by simpa using h2) ((Keep.grown h3).same (fun k _ => by simp)))
end
def batDig (noop : Bool) (l : List Req) : List UInt8 := Sha.sum ([66] ++ batPut noop l)
theorem batDig_length (noop : Bool) (l : List Req) : (batDig noop l).length = 32 := Sha.sum_length _
theorem batPut_le {b : BatV} {w : World} (h : b.at w) (hsm : b.small) : (batPut b.noop b.reqs).length ≤ 1000000 := by
  have h1 := reqPuts_le h.2 hsm.2 b.reqs.length (Nat.le_refl _)
  rw [List.take_of_length_le (Nat.le_refl _)] at h1
  have h2 := Num.putI_le ((b.reqs.length : Int) + 1) (by have := hsm.1; omega)
  have h3 := hsm.1
  unfold batPut
  split
  · have := Num.putI_le 0 (by omega)
    omega
  · rw [List.length_append]
    omega
theorem putI_pos (n : Int) (h : 0 ≤ n) : 0 < (Num.putI n).length := by
  obtain ⟨m, rfl⟩ := Int.eq_ofNat_of_zero_le h
  rw [Num.putI_nat, Num.putN_length]
  omega
theorem batPut_pos (noop : Bool) (l : List Req) : 0 < (batPut noop l).length := by
  unfold batPut
  split
  · exact putI_pos 0 (by omega)
  · have := putI_pos ((l.length : Int) + 1) (by omega)
    rw [List.length_append]
    omega
set_option maxRecDepth 100000 in
set_option maxHeartbeats 1600000 in
theorem bdig_any (b : BatV) (w : World) (h : b.at w) (hsm : b.small) :
    Calls Try.prog 88 #[.agg b.cells.toArray] w fun e w' => e = .returned (.agg (bv (batDig b.noop b.reqs)).toArray) ∧ Same w w' := by
  have hp := fun w h => bput_any none 0 0 [] b w (Sl.none w 1) (by omega) h hsm
  simp only [List.nil_append] at hp
  have hinf := Lib.hid (bat_info b)
  have hPl := batPut_le h hsm
  have hPp := batPut_pos b.noop b.reqs
  unfold batDig
  obtain ⟨P, hP⟩ : ∃ P, P = batPut b.noop b.reqs := ⟨_, rfl⟩
  rw [← hP] at hp hPl hPp ⊢
  have hsum := fun w po pn pc vs h1 h2 => sum_any po pn pc vs [[66], P] w h1 h2 (by simp; omega)
  have hfl : [[66], P].flatten = [66] ++ P := by simp
  rw [hfl] at hsum
  have hDl := Sha.sum_length ([66] ++ P)
  obtain ⟨D, hD⟩ : ∃ D, D = Sha.sum ([66] ++ P) := ⟨_, rfl⟩
  rw [← hD] at hsum hDl ⊢
  have hinfD := Lib.hid (dig_info hDl)
  unfold RetS at hp
  clear hP hfl hD
  replace h := Lib.hid h
  replace hp := Lib.hid hp
  replace hsum := Lib.hid hsum
  replace hDl := Lib.hid hDl
  go_enter Try.func88, Try.ntmps88
  go_upto_region 1 with (first | (refine box_row rfl _ _ rfl b.cells.toArray rfl hinf.out ?_; intro w0 hbx hs0; replace hbx := Lib.hid hbx; replace hs0 := Lib.hid hs0) | (refine alloc_new rfl 28 rfl (bv (List.replicate 32 0)).toArray (by kernel_rfl) ?_; intro w1 hd hs1; have hdl := blk_lt hd; replace hd := Lib.hid hd; replace hs1 := Lib.hid hs1))
  have hbx1 := Lib.hid (hs1.out.at hbx.out)
  have hw1 := Lib.hid (hs0.out.trans hs1.out)
  have z0 := hs0.out.size
  clear hbx hs0 hs1
  go_wp2_with (refine load_row rfl _ _ rfl w.heap.size rfl _ _ _ _ (Same.at (Same.refl.alloc _) hbx1.out) Try.underlying26 rfl hinf.out ?_)
  refine (hp.out _ (BatV.same h.out (hw1.out.trans (Same.refl.alloc _)))).mono ?_
  rintro e w2 ⟨ao, c, rfl, hsl, hs⟩
  have h66 := (sl_boxB (w := w1) (e := 5) [66] (by unfold maxLen; simp)).same hs
  have hs12 : Same w1 w2 := (Same.refl.alloc _).trans hs
  have hbx := sl_box (w := w2) (e := 166) [.slice (some ⟨w1.heap.size, 0, none⟩) 1 1, .slice ao P.length c] 2 rfl (by unfold maxLen; omega)
  have hpx := (Sls.cons h66 (Sls.cons hsl (Sls.nil w2))).box (e := 166)
  have hsm2 := Lib.hid (hsum.out _ _ _ _ _ hbx hpx)
  have hd2 := Lib.hid (hs12.at hd.out)
  have hw2 := Lib.hid (hw1.out.trans hs12)
  clear hbx hpx hs hs12 h66 hsl hd hw1
  go_wp2_with fail
  refine hsm2.out.mono ?_
  rintro e w3 ⟨rfl, hs3⟩
  have hs23 : Same w2 w3 := (Same.refl.alloc _).trans hs3
  have hd3 := Lib.hid (hs23.at hd2.out)
  have hw3 := Lib.hid (hw2.out.trans hs23)
  clear hs3 hs23 hsm2 hd2 hw2
  go_wp2_with (refine store_row rfl _ _ _ rfl w0.heap.size _ rfl rfl _ _ hd3.out hinfD.out (by rw [List.size_toArray, List.size_toArray, bv_length, bv_length, hDl.out]; rfl) (by simpa using bv_cell) ?_; intro w4 hb4 hk4; replace hb4 := Lib.hid hb4; replace hk4 := Lib.hid hk4)
  refine bodyPost_ret (v := .agg (bv D).toArray) (results_row (p := 2) (ty := 28) rfl _ _ w0.heap.size _ _ _ _ rfl hb4.out Try.underlying28 rfl hinfD.out) rfl ?_
  exact ⟨rfl, hw3.out.keep hk4.out (fun x hx hv => by omega)⟩
set_option maxRecDepth 100000 in
set_option maxHeartbeats 1600000 in
theorem rbdig_any (b : BatV) (w : World) (h : b.at w) (hsm : b.small) :
    Calls Try.prog 22 #[.agg b.cells.toArray] w fun e w' => e = .returned (.agg (bv (batDig b.noop b.reqs)).toArray) ∧ Same w w' := by
  have hp := fun w h => rbput_any none 0 0 [] b w (Sl.none w 1) (by omega) h hsm
  simp only [List.nil_append] at hp
  have hinf := Lib.hid (bat_info b)
  have hPl := batPut_le h hsm
  have hPp := batPut_pos b.noop b.reqs
  unfold batDig
  obtain ⟨P, hP⟩ : ∃ P, P = batPut b.noop b.reqs := ⟨_, rfl⟩
  rw [← hP] at hp hPl hPp ⊢
  have hsum := fun ao cap w h => rsum_any ao (1 + P.length) cap ([66] ++ P) w h (by omega)
  have hDl := Sha.sum_length ([66] ++ P)
  obtain ⟨D, hD⟩ : ∃ D, D = Sha.sum ([66] ++ P) := ⟨_, rfl⟩
  rw [← hD] at hDl ⊢
  simp only [← hD] at hsum
  have hinfD := Lib.hid (dig_info hDl)
  unfold RetS at hp
  clear hP hD
  replace h := Lib.hid h
  replace hp := Lib.hid hp
  replace hsum := Lib.hid hsum
  replace hDl := Lib.hid hDl
  go_enter Try.func22, Try.ntmps22
  go_upto_region 1 with (first | (refine box_row rfl _ _ rfl b.cells.toArray rfl hinf.out ?_; intro w0 hbx hs0; replace hbx := Lib.hid hbx; replace hs0 := Lib.hid hs0) | (refine alloc_new rfl 28 rfl (bv (List.replicate 32 0)).toArray (by kernel_rfl) ?_; intro w1 hd hs1; have hdl := blk_lt hd; replace hd := Lib.hid hd; replace hs1 := Lib.hid hs1))
  have hbx1 := Lib.hid (hs1.out.at hbx.out)
  have hw1 := Lib.hid (hs0.out.trans hs1.out)
  have z0 := hs0.out.size
  clear hbx hs0 hs1
  go_wp2_with (first | (refine conv_const [66] rfl _ rfl byT.under u8T 1 1 rfl (by unfold maxLen; omega) rfl rfl ?_; intro w1b h66 hs66 hz66; clear hz66; have hbx1b := Lib.hid (hs66.at hbx1.out); replace h66 := Lib.hid h66; replace hs66 := Lib.hid hs66) | (refine load_row rfl _ _ rfl w.heap.size rfl _ _ _ _ hbx1b.out Try.underlying26 rfl hinf.out ?_))
  refine (hp.out _ (BatV.same h.out (hw1.out.trans hs66.out))).mono ?_
  rintro e w2 ⟨ao, c, rfl, hsl, hs⟩
  have h662 := Lib.hid (h66.out.same hs)
  have hs12 : Same w1 w2 := hs66.out.trans hs
  obtain ⟨ad, rfl⟩ := hsl.addr hPp
  have hd2 := Lib.hid (hs12.at hd.out)
  have hw2 := Lib.hid (hw1.out.trans hs12)
  clear hs hs12 hd hw1 h66 hs66 hbx1b
  replace hsl := Lib.hid hsl
  go_wp2_with (at_builtin; refine append_fullS rfl _ _ rfl byT h662.out rfl rfl hsl.out hPp bv_cell (by omega) (by omega) ?_)
  intro v3 w3 ho3 hs3
  rw [← bv_append] at ho3
  obtain ⟨ao3, c3, rfl, hsl3⟩ := ho3.sl
  have hd3 := Lib.hid (hs3.at hd2.out)
  have hw3 := Lib.hid (hw2.out.trans hs3)
  clear ho3 hs3 hd2 hw2 h662 hsl
  replace hsl3 := Lib.hid hsl3
  go_wp2_with fail
  refine (hsum.out _ _ _ hsl3.out).mono ?_
  rintro e w5 ⟨rfl, hs5⟩
  have hd5 := Lib.hid (hs5.at hd3.out)
  have hw5 := Lib.hid (hw3.out.trans hs5)
  clear hs5 hd3 hw3
  go_wp2_with (refine store_row rfl _ _ _ rfl w0.heap.size _ rfl rfl _ _ hd5.out hinfD.out (by rw [List.size_toArray, List.size_toArray, bv_length, bv_length, hDl.out]; rfl) (by simpa using bv_cell) ?_; intro w4 hb4 hk4; replace hb4 := Lib.hid hb4; replace hk4 := Lib.hid hk4)
  refine bodyPost_ret (v := .agg (bv D).toArray) (results_row (p := 2) (ty := 28) rfl _ _ w0.heap.size _ _ _ _ rfl hb4.out Try.underlying28 rfl hinfD.out) rfl ?_
  exact ⟨rfl, hw5.out.keep hk4.out (fun x hx hv => by omega)⟩
def noneBat : BatV := ⟨true, none, 0, []⟩
theorem noneBat_at (w : World) : noneBat.at w := ⟨Sl.none w 19, fun r hr => by cases hr⟩
theorem zeroBat_at (w : World) : zeroBat.at w := ⟨Sl.none w 19, fun r hr => by cases hr⟩
theorem noneBat_small : noneBat.small := ⟨by simp [noneBat], fun r hr => by cases hr⟩
theorem zeroBat_small : zeroBat.small := ⟨by simp [zeroBat], fun r hr => by cases hr⟩
set_option maxRecDepth 100000 in
set_option maxHeartbeats 400000 in
theorem none_any (w : World) : Calls Try.prog 87 #[] w fun e w' => e = .returned (.agg #[.bool true, .slice none 0 0]) ∧ Same w w' := by
  have hinf := Lib.hid (bat_info noneBat)
  go_enter Try.func87, Try.ntmps87
  go_wp2_with (first | (refine alloc_new rfl 26 rfl #[.bool false, .slice none 0 0] (by kernel_rfl) ?_; intro w0 hd hs0; replace hd := Lib.hid hd; replace hs0 := Lib.hid hs0) | (refine build_const (ty := 26) (.agg #[.bool true, .slice none 0 0]) rfl rfl (by kernel_rfl) ?_) | (refine store_row rfl _ _ _ rfl w.heap.size #[.bool true, .slice none 0 0] rfl rfl _ _ hd.out hinf.out rfl (by simp [Value.oneCell']) ?_; intro w1 hb1 hk1; replace hb1 := Lib.hid hb1; replace hk1 := Lib.hid hk1))
  refine bodyPost_ret (v := .agg #[.bool true, .slice none 0 0]) (results_row (p := 0) (ty := 26) rfl _ _ w.heap.size _ _ _ _ rfl hb1.out Try.underlying26 rfl hinf.out) rfl ?_
  exact ⟨rfl, hs0.out.keep hk1.out (fun x hx hv => by omega)⟩
theorem digs_apart : (Sha.sum [66, 0] != Sha.sum [66, 1, 1]) = true := by decide +kernel
theorem putI_0 : Num.putI 0 = [0] := by
  rw [show (0 : Int) = ((0 : Nat) : Int) from rfl, Num.putI_nat]
  simp [Num.putN, Num.nd_zero, Num.beN]
theorem putI_1 : Num.putI 1 = [1, 1] := by
  rw [show (1 : Int) = ((1 : Nat) : Int) from rfl, Num.putI_nat]
  have : Num.nd 1 = 1 := by rw [Num.nd_pos (by decide), show 1 / 256 = 0 from rfl, Num.nd_zero]
  rw [Num.putN, this]
  rfl
end Go.Proofs.Ytmacgmmjgdmleaa
