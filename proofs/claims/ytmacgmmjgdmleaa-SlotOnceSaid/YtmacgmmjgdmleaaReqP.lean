/-
  Requests: how one is laid behind bytes, by both.
-/
import Derived.Test.YtmacgmmjgdmleaaReq5
import Derived.Test.YtmacgmmjgdmleaaReads
namespace Go.Proofs.Ytmacgmmjgdmleaa
open Go Go.RowKit
set_option linter.unusedSimpArgs false
set_option linter.unusedVariables false

def reqPut (r : Req) : List UInt8 := Num.putI r.client ++ Num.putI r.num ++ Num.putT r.data.data.toList ++ r.tag
theorem reqPut_le (r : Req) (ht : r.tag.length = 16) (h1 : r.client ≤ 9223372036854775807) (h2 : r.num ≤ 9223372036854775807) (h3 : r.data.size ≤ 1000000000) : (reqPut r).length ≤ r.data.size + 43 := by
  have := Num.putI_le _ h1
  have := Num.putI_le _ h2
  have h4 := Num.putT_le r.data.data.toList (by simpa using h3)
  simp [reqPut] at h4 ⊢
  omega
theorem isOwn_any (v : Value) (w : World) (base n : Nat) (xs : List Value) (h : isOwn base n xs v w) : Own w base 5 1 v n xs := h
set_option maxRecDepth 100000 in
set_option maxHeartbeats 800000 in
theorem rqput_any (ao : Option Addr) (len cap : Nat) (xs : List UInt8) (r : Req) (w : World) (hsl : Sl w 1 ao len cap (bv xs)) (hmax : len ≤ 40737487000000) (ht : r.tag.length = 16) (h1 : r.client ≤ 9223372036854775807) (h2 : r.num ≤ 9223372036854775807) (h3 : r.data.size ≤ 100000000) :
    Calls Try.prog 180 #[.slice ao len cap, .agg r.cells.toArray] w (RetB w (xs ++ reqPut r)) := by
  have hinf := Lib.hid (req_info ht)
  obtain ⟨c, hc⟩ : ∃ c, c = r.client := ⟨_, rfl⟩
  obtain ⟨n, hn⟩ : ∃ n, n = r.num := ⟨_, rfl⟩
  obtain ⟨d, hd⟩ : ∃ d, d = r.data := ⟨_, rfl⟩
  have hlen : xs.length = len := by have := hsl.len; rw [bv_length] at this; omega
  have hB : xs ++ reqPut r = xs ++ Num.putI c ++ Num.putI n ++ Num.putT d.data.toList ++ r.tag := by rw [hc, hn, hd, reqPut]; simp
  have hl1 := Num.putI_le c (by omega)
  have hl2 := Num.putI_le n (by omega)
  have hl3 := Num.putT_le d.data.toList (by simp; rw [hd]; omega)
  have hp1 := fun w h => put_any ao len cap xs c w h (by omega) (by omega)
  obtain ⟨A1, hA1⟩ : ∃ A, A = xs ++ Num.putI c := ⟨_, rfl⟩
  have hA1l : A1.length ≤ len + 9 := by rw [hA1]; simp; omega
  rw [← hA1] at hp1 hB
  have hp2 := fun ao cap w h => put_any ao A1.length cap A1 n w h (by omega) (by omega)
  obtain ⟨A2, hA2⟩ : ∃ A, A = A1 ++ Num.putI n := ⟨_, rfl⟩
  have hA2l : A2.length ≤ len + 18 := by rw [hA2]; simp; omega
  rw [← hA2] at hp2 hB
  have hp3 := fun ao cap w h => putText_any ao A2.length cap A2 d w h (by omega) (by rw [hd]; omega)
  obtain ⟨A3, hA3⟩ : ∃ A, A = A2 ++ Num.putT d.data.toList := ⟨_, rfl⟩
  have hdl : d.data.toList.length = d.size := by simp
  have hds : d.size = r.data.size := by rw [hd]
  have hA3l : A3.length ≤ len + 27 + 100000000 := by rw [hA3, List.length_append]; rw [hdl] at hl3; omega
  rw [← hA3] at hp3 hB
  rw [hB]
  have htl : (bv r.tag).length = 16 := by rw [bv_length, ht]
  clear hB hA1 hA2 hA3 hl1 hl2 hl3 hdl hds
  replace htl := Lib.hid htl
  replace hlen := Lib.hid hlen
  replace hsl := Lib.hid hsl
  replace hc := Lib.hid hc
  replace hn := Lib.hid hn
  replace hd := Lib.hid hd
  replace hp1 := Lib.hid hp1
  replace hp2 := Lib.hid hp2
  replace hp3 := Lib.hid hp3
  go_enter Try.func180, Try.ntmps180
  go_upto_region 1 with (refine box_row rfl _ _ rfl _ rfl hinf.out ?_; intro w0 hbx hs0; have c0 := req_client hbx; have c1 := req_num hbx; have c2 := req_data hbx; have ct := req_tag hbx; rw [← hc.out] at c0; rw [← hn.out] at c1; rw [← hd.out] at c2; clear hbx; replace hs0 := Lib.hid hs0; replace c0 := Lib.hid c0; replace c1 := Lib.hid c1; replace c2 := Lib.hid c2; replace ct := Lib.hid ct)
  have hsl0 := Lib.hid (hsl.out.same hs0.out)
  clear hsl
  go_cut [0] (fun v wx => Own wx w0.heap.size 5 1 v A3.length (bv A3) ∧ Same w0 wx)
  case first =>
    refine wp_region_tails (by kernel_rfl) [(5, 0), (6, 1), (7, 2), (8, 3), (9, 4), (10, 5), (11, 6), (12, 7), (13, 8), (14, 9)] Same (Same _) [isV (.slice ao len cap), isV (.pointer (some ⟨w.heap.size, 0, none⟩)), isV (.int .i64 c), isB A1, isV (.pointer (some ⟨w.heap.size, 1, none⟩)), isV (.int .i64 n), isB A2, isV (.pointer (some ⟨w.heap.size, 2, none⟩)), isV (.string d), isOwn w0.heap.size A3.length (bv A3)] Same.refl.drew (fun _ _ h k => h.trans k) (by simp [isV_stable, isB_stable, isAny_stable, isOwn_stable]) (by decide) (l := [_, _, _, _, _, _, _, _, _, _]) rfl (by decide) (by kernel_rfl) ?_ ?_
    · refine ⟨?_, ?_, ?_, ?_, ?_, ?_, ?_, ?_, ?_, ?_, trivial⟩
      all_goals (intro u wx hI hp; simp only [mkAct, List.foldl_cons, List.foldl_nil, List.setIfInBounds_toArray, List.set_cons_succ, List.set_cons_zero])
      · -- operation 0
        go_wp2
        refine stq_v rfl Same.refl ?_
        first | (simp only [mkAct, List.foldl_cons, List.foldl_nil, List.setIfInBounds_toArray, List.set_cons_succ, List.set_cons_zero, upd, reduceIte, Nat.reduceEqDiff, Nat.reduceAdd, str]; done) | (simp [mkAct, upd, str, *]; done)
      · -- operation 1
        go_wp2
        refine stq_v rfl Same.refl ?_
        first | (simp only [mkAct, List.foldl_cons, List.foldl_nil, List.setIfInBounds_toArray, List.set_cons_succ, List.set_cons_zero, upd, reduceIte, Nat.reduceEqDiff, Nat.reduceAdd, str]; done) | (simp [mkAct, upd, str, *]; done)
      · -- operation 2
        obtain ⟨f1, -⟩ := hp
        replace f1 : u 1 = (.pointer (some ⟨w.heap.size, 0, none⟩)) := f1
        try simp only [f1, str]
        have cx := hI.cell (c0.out)
        go_wp2
        refine stq_v rfl Same.refl ?_
        first | (simp only [mkAct, List.foldl_cons, List.foldl_nil, List.setIfInBounds_toArray, List.set_cons_succ, List.set_cons_zero, upd, reduceIte, Nat.reduceEqDiff, Nat.reduceAdd, f1, str]; done) | (simp [mkAct, upd, f1, str, *]; done)
      · -- operation 3
        obtain ⟨f0, f2, -⟩ := hp
        replace f0 : u 0 = (.slice ao len cap) := f0
        replace f2 : u 2 = (.int .i64 c) := f2
        try simp only [f0, f2, str]
        go_wp2_with fail
        refine (hp1.out _ (hsl0.out.same hI)).mono ?_
        rintro e w1 ⟨ao', c', rfl, hsl', hs'⟩
        go_wp2
        refine stq_x (.slice ao' _ c') rfl ⟨ao', c', rfl, hsl'⟩ hs' ?_
        first | (simp only [mkAct, List.foldl_cons, List.foldl_nil, List.setIfInBounds_toArray, List.set_cons_succ, List.set_cons_zero, upd, reduceIte, Nat.reduceEqDiff, Nat.reduceAdd, f0, f2, str]; done) | (simp [mkAct, upd, f0, f2, str, *]; done)
      · -- operation 4
        go_wp2
        refine stq_v rfl Same.refl ?_
        first | (simp only [mkAct, List.foldl_cons, List.foldl_nil, List.setIfInBounds_toArray, List.set_cons_succ, List.set_cons_zero, upd, reduceIte, Nat.reduceEqDiff, Nat.reduceAdd, str]; done) | (simp [mkAct, upd, str, *]; done)
      · -- operation 5
        obtain ⟨f4, -⟩ := hp
        replace f4 : u 4 = (.pointer (some ⟨w.heap.size, 1, none⟩)) := f4
        try simp only [f4, str]
        have cx := hI.cell (c1.out)
        go_wp2
        refine stq_v rfl Same.refl ?_
        first | (simp only [mkAct, List.foldl_cons, List.foldl_nil, List.setIfInBounds_toArray, List.set_cons_succ, List.set_cons_zero, upd, reduceIte, Nat.reduceEqDiff, Nat.reduceAdd, f4, str]; done) | (simp [mkAct, upd, f4, str, *]; done)
      · -- operation 6
        obtain ⟨⟨ao3, c3, f3, hsl3⟩, f5, -, -⟩ := hp
        replace f5 : u 5 = (.int .i64 n) := f5
        try simp only [f3, f5, str]
        go_wp2_with fail
        refine (hp2.out _ _ _ hsl3).mono ?_
        rintro e w1 ⟨ao', c', rfl, hsl', hs'⟩
        go_wp2
        refine stq_x (.slice ao' _ c') rfl ⟨ao', c', rfl, hsl'⟩ hs' ?_
        first | (simp only [mkAct, List.foldl_cons, List.foldl_nil, List.setIfInBounds_toArray, List.set_cons_succ, List.set_cons_zero, upd, reduceIte, Nat.reduceEqDiff, Nat.reduceAdd, f3, f5, str]; done) | (simp [mkAct, upd, f3, f5, str, *]; done)
      · -- operation 7
        go_wp2
        refine stq_v rfl Same.refl ?_
        first | (simp only [mkAct, List.foldl_cons, List.foldl_nil, List.setIfInBounds_toArray, List.set_cons_succ, List.set_cons_zero, upd, reduceIte, Nat.reduceEqDiff, Nat.reduceAdd, str]; done) | (simp [mkAct, upd, str, *]; done)
      · -- operation 8
        obtain ⟨f7, -⟩ := hp
        replace f7 : u 7 = (.pointer (some ⟨w.heap.size, 2, none⟩)) := f7
        try simp only [f7, str]
        have cx := hI.cell (c2.out)
        go_wp2
        refine stq_v rfl Same.refl ?_
        first | (simp only [mkAct, List.foldl_cons, List.foldl_nil, List.setIfInBounds_toArray, List.set_cons_succ, List.set_cons_zero, upd, reduceIte, Nat.reduceEqDiff, Nat.reduceAdd, f7, str]; done) | (simp [mkAct, upd, f7, str, *]; done)
      · -- operation 9
        obtain ⟨⟨ao6, c6, f6, hsl6⟩, f8, -, -⟩ := hp
        replace f8 : u 8 = (.string d) := f8
        try simp only [f6, f8, str]
        go_wp2_with fail
        refine (hp3.out _ _ _ hsl6).mono ?_
        rintro e w1 ⟨v, rfl, ho, hs'⟩
        go_wp2
        refine stq_x v rfl (ho.lower hI.size) hs' ?_
        first | (simp only [mkAct, List.foldl_cons, List.foldl_nil, List.setIfInBounds_toArray, List.set_cons_succ, List.set_cons_zero, upd, reduceIte, Nat.reduceEqDiff, Nat.reduceAdd, f6, f8, str]; done) | (simp [mkAct, upd, f6, f8, str, *]; done)
    · intro u wx hI hR
      obtain ⟨r0, r1, r2, r3, r4, r5, r6, r7, r8, r9, -⟩ := hR
      replace r0 : u 0 = (.slice ao len cap) := r0
      replace r1 : u 1 = (.pointer (some ⟨w.heap.size, 0, none⟩)) := r1
      replace r2 : u 2 = (.int .i64 c) := r2
      obtain ⟨ao3, c3, r3, hsl3⟩ := r3
      replace r4 : u 4 = (.pointer (some ⟨w.heap.size, 1, none⟩)) := r4
      replace r5 : u 5 = (.int .i64 n) := r5
      obtain ⟨ao6, c6, r6, hsl6⟩ := r6
      replace r7 : u 7 = (.pointer (some ⟨w.heap.size, 2, none⟩)) := r7
      replace r8 : u 8 = (.string d) := r8
      simp only [mkAct, List.foldl_cons, List.foldl_nil, List.setIfInBounds_toArray, List.set_cons_succ, List.set_cons_zero]
      try simp only [str, r0, r1, r2, r3, r4, r5, r6, r7, r8]
      go_wp2
      go_meet
      exact ⟨r9, hI⟩
  case rest =>
    obtain ⟨hown, hs1⟩ := hcut
    rename_i vv
    have ct1 : Sl wc 1 (some ⟨w.heap.size, 3, none⟩) 16 16 (bv r.tag) := ⟨by rw [htl.out], Nat.le_refl _, by unfold maxLen; omega, (fun e => by cases e), fun b hb j u hu => by
      injection hb with hb
      subst hb
      rw [show (⟨w.heap.size, 3, none⟩ : Addr).add j = ⟨w.heap.size, 3 + j, none⟩ from Addr.add_mid _ _ _]
      exact hs1.cell (ct.out j u hu)⟩
    have hz0 := hs0.out.size
    have hz1 := hs1.size
    replace hown := Lib.hid hown
    replace hs1 := Lib.hid hs1
    replace ct1 := Lib.hid ct1
    go_wp2_with (at_builtin; refine append_sl rfl _ _ rfl byT hown.out rfl rfl ct1.out bv_cell hz1 (by omega) (by omega) ?_)
    intro v5 w5 ho5 hk5 hz5
    clear hz5
    rw [← bv_append] at ho5
    go_wp2
    go_ret
    refine ⟨_, rfl, ?_, (hs0.out.trans hs1.out).keep hk5 (fun x hx hv => by have := hown.out.base x hv; omega)⟩
    rw [List.length_append, ht]
    exact ho5.lower hz0
set_option maxRecDepth 100000 in
set_option maxHeartbeats 800000 in
theorem rqrput_any (ao : Option Addr) (len cap : Nat) (xs : List UInt8) (r : Req) (w : World) (hsl : Sl w 1 ao len cap (bv xs)) (hmax : len ≤ 40737487000000) (ht : r.tag.length = 16) (h1 : r.client ≤ 9223372036854775807) (h2 : r.num ≤ 9223372036854775807) (h3 : r.data.size ≤ 100000000) :
    Calls Try.prog 150 #[.slice ao len cap, .agg r.cells.toArray] w (RetB w (xs ++ reqPut r)) := by
  have hinf := Lib.hid (req_info ht)
  obtain ⟨c, hc⟩ : ∃ c, c = r.client := ⟨_, rfl⟩
  obtain ⟨n, hn⟩ : ∃ n, n = r.num := ⟨_, rfl⟩
  obtain ⟨d, hd⟩ : ∃ d, d = r.data := ⟨_, rfl⟩
  have hlen : xs.length = len := by have := hsl.len; rw [bv_length] at this; omega
  have hB : xs ++ reqPut r = xs ++ Num.putI c ++ Num.putI n ++ Num.putT d.data.toList ++ r.tag := by rw [hc, hn, hd, reqPut]; simp
  have hl1 := Num.putI_le c (by omega)
  have hl2 := Num.putI_le n (by omega)
  have hl3 := Num.putT_le d.data.toList (by simp; rw [hd]; omega)
  have hp1 := fun w h => rput_any ao len cap xs c w h (by omega) (by omega)
  obtain ⟨A1, hA1⟩ : ∃ A, A = xs ++ Num.putI c := ⟨_, rfl⟩
  have hA1l : A1.length ≤ len + 9 := by rw [hA1]; simp; omega
  rw [← hA1] at hp1 hB
  have hp2 := fun ao cap w h => rput_any ao A1.length cap A1 n w h (by omega) (by omega)
  obtain ⟨A2, hA2⟩ : ∃ A, A = A1 ++ Num.putI n := ⟨_, rfl⟩
  have hA2l : A2.length ≤ len + 18 := by rw [hA2]; simp; omega
  rw [← hA2] at hp2 hB
  have hp3 := fun ao cap w h => rputText_any ao A2.length cap A2 d w h (by omega) (by rw [hd]; omega)
  obtain ⟨A3, hA3⟩ : ∃ A, A = A2 ++ Num.putT d.data.toList := ⟨_, rfl⟩
  have hdl : d.data.toList.length = d.size := by simp
  have hds : d.size = r.data.size := by rw [hd]
  have hA3l : A3.length ≤ len + 27 + 100000000 := by rw [hA3, List.length_append]; rw [hdl] at hl3; omega
  rw [← hA3] at hp3 hB
  rw [hB]
  have htg : ∀ k, k < 16 → bv (A3 ++ r.tag.take k) ++ [.int .u8 ((r.tag.getD k 0).toNat : Int)] = bv (A3 ++ r.tag.take (k + 1)) := by
    intro k hk
    have hk2 : k < r.tag.length := by omega
    rw [List.take_succ_eq_append_getElem hk2, ← List.append_assoc, bv_append (A3 ++ r.tag.take k), bv_one]
    simp [List.getD, hk2]
  have htake : A3 ++ r.tag.take 16 = A3 ++ r.tag := by rw [List.take_of_length_le (by omega)]
  clear hB hA1 hA2 hA3 hl1 hl2 hl3 hdl hds
  replace htg := Lib.hid htg
  replace htake := Lib.hid htake
  replace hlen := Lib.hid hlen
  replace hsl := Lib.hid hsl
  replace hc := Lib.hid hc
  replace hn := Lib.hid hn
  replace hd := Lib.hid hd
  replace hp1 := Lib.hid hp1
  replace hp2 := Lib.hid hp2
  replace hp3 := Lib.hid hp3
  go_enter Try.func150, Try.ntmps150
  go_upto_region 1 with (refine box_row rfl _ _ rfl _ rfl hinf.out ?_; intro w0 hbx hs0; have c0 := req_client hbx; have c1 := req_num hbx; have c2 := req_data hbx; have ct := req_tag hbx; rw [← hc.out] at c0; rw [← hn.out] at c1; rw [← hd.out] at c2; clear hbx; replace hs0 := Lib.hid hs0; replace c0 := Lib.hid c0; replace c1 := Lib.hid c1; replace c2 := Lib.hid c2; replace ct := Lib.hid ct)
  have hsl0 := Lib.hid (hsl.out.same hs0.out)
  clear hsl
  go_cut [0] (fun v wx => Own wx w0.heap.size 5 1 v A3.length (bv A3) ∧ Same w0 wx)
  case first =>
    refine wp_region_tails (by kernel_rfl) [(6, 0), (7, 1), (8, 2), (9, 3), (10, 4), (11, 5), (12, 6), (13, 7), (14, 8), (15, 9)] Same (Same _) [isV (.slice ao len cap), isV (.pointer (some ⟨w.heap.size, 0, none⟩)), isV (.int .i64 c), isB A1, isV (.pointer (some ⟨w.heap.size, 1, none⟩)), isV (.int .i64 n), isB A2, isV (.pointer (some ⟨w.heap.size, 2, none⟩)), isV (.string d), isOwn w0.heap.size A3.length (bv A3)] Same.refl.drew (fun _ _ h k => h.trans k) (by simp [isV_stable, isB_stable, isAny_stable, isOwn_stable]) (by decide) (l := [_, _, _, _, _, _, _, _, _, _]) rfl (by decide) (by kernel_rfl) ?_ ?_
    · refine ⟨?_, ?_, ?_, ?_, ?_, ?_, ?_, ?_, ?_, ?_, trivial⟩
      all_goals (intro u wx hI hp; simp only [mkAct, List.foldl_cons, List.foldl_nil, List.setIfInBounds_toArray, List.set_cons_succ, List.set_cons_zero])
      · -- operation 0
        go_wp2
        refine stq_v rfl Same.refl ?_
        first | (simp only [mkAct, List.foldl_cons, List.foldl_nil, List.setIfInBounds_toArray, List.set_cons_succ, List.set_cons_zero, upd, reduceIte, Nat.reduceEqDiff, Nat.reduceAdd, str]; done) | (simp [mkAct, upd, str, *]; done)
      · -- operation 1
        go_wp2
        refine stq_v rfl Same.refl ?_
        first | (simp only [mkAct, List.foldl_cons, List.foldl_nil, List.setIfInBounds_toArray, List.set_cons_succ, List.set_cons_zero, upd, reduceIte, Nat.reduceEqDiff, Nat.reduceAdd, str]; done) | (simp [mkAct, upd, str, *]; done)
      · -- operation 2
        obtain ⟨f1, -⟩ := hp
        replace f1 : u 1 = (.pointer (some ⟨w.heap.size, 0, none⟩)) := f1
        try simp only [f1, str]
        have cx := hI.cell (c0.out)
        go_wp2
        refine stq_v rfl Same.refl ?_
        first | (simp only [mkAct, List.foldl_cons, List.foldl_nil, List.setIfInBounds_toArray, List.set_cons_succ, List.set_cons_zero, upd, reduceIte, Nat.reduceEqDiff, Nat.reduceAdd, f1, str]; done) | (simp [mkAct, upd, f1, str, *]; done)
      · -- operation 3
        obtain ⟨f0, f2, -⟩ := hp
        replace f0 : u 0 = (.slice ao len cap) := f0
        replace f2 : u 2 = (.int .i64 c) := f2
        try simp only [f0, f2, str]
        go_wp2_with fail
        refine ((hp1.out _ (hsl0.out.same hI)).mono fun _ _ h => RetB.s h).mono ?_
        rintro e w1 ⟨ao', c', rfl, hsl', hs'⟩
        go_wp2
        refine stq_x (.slice ao' _ c') rfl ⟨ao', c', rfl, hsl'⟩ hs' ?_
        first | (simp only [mkAct, List.foldl_cons, List.foldl_nil, List.setIfInBounds_toArray, List.set_cons_succ, List.set_cons_zero, upd, reduceIte, Nat.reduceEqDiff, Nat.reduceAdd, f0, f2, str]; done) | (simp [mkAct, upd, f0, f2, str, *]; done)
      · -- operation 4
        go_wp2
        refine stq_v rfl Same.refl ?_
        first | (simp only [mkAct, List.foldl_cons, List.foldl_nil, List.setIfInBounds_toArray, List.set_cons_succ, List.set_cons_zero, upd, reduceIte, Nat.reduceEqDiff, Nat.reduceAdd, str]; done) | (simp [mkAct, upd, str, *]; done)
      · -- operation 5
        obtain ⟨f4, -⟩ := hp
        replace f4 : u 4 = (.pointer (some ⟨w.heap.size, 1, none⟩)) := f4
        try simp only [f4, str]
        have cx := hI.cell (c1.out)
        go_wp2
        refine stq_v rfl Same.refl ?_
        first | (simp only [mkAct, List.foldl_cons, List.foldl_nil, List.setIfInBounds_toArray, List.set_cons_succ, List.set_cons_zero, upd, reduceIte, Nat.reduceEqDiff, Nat.reduceAdd, f4, str]; done) | (simp [mkAct, upd, f4, str, *]; done)
      · -- operation 6
        obtain ⟨⟨ao3, c3, f3, hsl3⟩, f5, -, -⟩ := hp
        replace f5 : u 5 = (.int .i64 n) := f5
        try simp only [f3, f5, str]
        go_wp2_with fail
        refine ((hp2.out _ _ _ hsl3).mono fun _ _ h => RetB.s h).mono ?_
        rintro e w1 ⟨ao', c', rfl, hsl', hs'⟩
        go_wp2
        refine stq_x (.slice ao' _ c') rfl ⟨ao', c', rfl, hsl'⟩ hs' ?_
        first | (simp only [mkAct, List.foldl_cons, List.foldl_nil, List.setIfInBounds_toArray, List.set_cons_succ, List.set_cons_zero, upd, reduceIte, Nat.reduceEqDiff, Nat.reduceAdd, f3, f5, str]; done) | (simp [mkAct, upd, f3, f5, str, *]; done)
      · -- operation 7
        go_wp2
        refine stq_v rfl Same.refl ?_
        first | (simp only [mkAct, List.foldl_cons, List.foldl_nil, List.setIfInBounds_toArray, List.set_cons_succ, List.set_cons_zero, upd, reduceIte, Nat.reduceEqDiff, Nat.reduceAdd, str]; done) | (simp [mkAct, upd, str, *]; done)
      · -- operation 8
        obtain ⟨f7, -⟩ := hp
        replace f7 : u 7 = (.pointer (some ⟨w.heap.size, 2, none⟩)) := f7
        try simp only [f7, str]
        have cx := hI.cell (c2.out)
        go_wp2
        refine stq_v rfl Same.refl ?_
        first | (simp only [mkAct, List.foldl_cons, List.foldl_nil, List.setIfInBounds_toArray, List.set_cons_succ, List.set_cons_zero, upd, reduceIte, Nat.reduceEqDiff, Nat.reduceAdd, f7, str]; done) | (simp [mkAct, upd, f7, str, *]; done)
      · -- operation 9
        obtain ⟨⟨ao6, c6, f6, hsl6⟩, f8, -, -⟩ := hp
        replace f8 : u 8 = (.string d) := f8
        try simp only [f6, f8, str]
        go_wp2_with fail
        refine (hp3.out _ _ _ hsl6).mono ?_
        rintro e w1 ⟨v, rfl, ho, hs'⟩
        go_wp2
        refine stq_x v rfl (ho.lower hI.size) hs' ?_
        first | (simp only [mkAct, List.foldl_cons, List.foldl_nil, List.setIfInBounds_toArray, List.set_cons_succ, List.set_cons_zero, upd, reduceIte, Nat.reduceEqDiff, Nat.reduceAdd, f6, f8, str]; done) | (simp [mkAct, upd, f6, f8, str, *]; done)
    · intro u wx hI hR
      obtain ⟨r0, r1, r2, r3, r4, r5, r6, r7, r8, r9, -⟩ := hR
      replace r0 : u 0 = (.slice ao len cap) := r0
      replace r1 : u 1 = (.pointer (some ⟨w.heap.size, 0, none⟩)) := r1
      replace r2 : u 2 = (.int .i64 c) := r2
      obtain ⟨ao3, c3, r3, hsl3⟩ := r3
      replace r4 : u 4 = (.pointer (some ⟨w.heap.size, 1, none⟩)) := r4
      replace r5 : u 5 = (.int .i64 n) := r5
      obtain ⟨ao6, c6, r6, hsl6⟩ := r6
      replace r7 : u 7 = (.pointer (some ⟨w.heap.size, 2, none⟩)) := r7
      replace r8 : u 8 = (.string d) := r8
      simp only [mkAct, List.foldl_cons, List.foldl_nil, List.setIfInBounds_toArray, List.set_cons_succ, List.set_cons_zero]
      try simp only [str, r0, r1, r2, r3, r4, r5, r6, r7, r8]
      go_wp2
      go_meet
      exact ⟨r9, hI⟩
  case rest =>
    obtain ⟨hown, hs1⟩ := hcut
    rename_i vv
    have ct1 : wc.rangeAt w.heap.size 3 (bv r.tag) := hs1.range ct.out
    have hz0 := hs0.out.size
    have hz1 := hs1.size
    replace hown := Lib.hid hown
    replace hs1 := Lib.hid hs1
    replace ct1 := Lib.hid ct1
    go_wp2
    go_loopw [0, 5] (fun v i wr => ∃ j : Nat, j ≤ 16 ∧ i = .int .i64 j ∧ Own wr w0.heap.size 5 1 v (A3.length + j) (bv (A3 ++ r.tag.take j)) ∧ Keep (fun k => w0.heap.size ≤ k) wc wr) (fun _ i _ => 16 - (intOf i).toNat)
    case atStart => exact ⟨0, by omega, rfl, by simpa using hown.out, Keep.refl⟩
    case round =>
      obtain ⟨j, hj, rfl, ho, hkp⟩ := hrel
      by_cases hlt : j < 16
      · have hw : Same w0 wr := hs1.out.keep hkp (fun x hx hv => by omega)
        have hbt := hw.cell (ct.out j _ (bv_get (by omega)))
        rw [show r.tag[j]'(by omega) = r.tag.getD j 0 from by simp [List.getD, show j < r.tag.length by omega]] at hbt
        have hst := htg.out j hlt
        obtain ⟨z, hz⟩ : ∃ z, z = r.tag.getD j 0 := ⟨_, rfl⟩
        rw [← hz] at hbt hst
        have hws := hw.size
        have q0 : 0 ≤ (j : Int) := by omega
        have q1 : (j : Int) < 16 := by omega
        clear hz hw
        replace hst := Lib.hid hst
        replace hkp := Lib.hid hkp
        replace ho := Lib.hid ho
        go_wp2_with (at_builtin; refine append_own (l := [.int .u8 (z.toNat : Int)]) rfl _ _ rfl byT ho.out rfl rfl rfl (by simp [Value.oneCell']) hws (by omega) (by omega) ?_)
        intro v2 w2 ho2 hk2 hz2
        clear hz2
        rw [hst.out] at ho2
        go_wp2
        go_roundw
        case rel => exact ⟨j + 1, by omega, by go_num, ho2, hkp.out.trans hk2 (fun x _ hx => ho.out.base x hx)⟩
        case measure => simp [intOf]; omega
      · obtain rfl : j = 16 := by omega
        rw [htake.out] at ho
        have hw : Same w0 wr := hs1.out.keep hkp (fun x hx hv => by omega)
        clear hkp
        replace ho := Lib.hid ho
        go_wp2
        go_ret
        refine ⟨_, rfl, ?_, hs0.out.trans hw⟩
        rw [List.length_append, ht]
        exact ho.out.lower hz0
end Go.Proofs.Ytmacgmmjgdmleaa
