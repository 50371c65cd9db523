/-
  The seal's keys, the program's: Derive, Len, Sign, Check.
-/
import Derived.Test.YtgdkhiihdoekaaaMac2
import Derived.Test.YtgdkhiihdoekaaaEq
import Derived.Test.YtgdkhiihdoekaaaMut
import Derived.Test.YtgdkhiihdoekaaaRes
import Derived.Deep.DeepCutAuto
namespace Go.Proofs.Ytgdkhiihdoekaaa
open Go Go.RowKit
set_option linter.unusedSimpArgs false
set_option linter.unusedVariables false

section
variable {P : Program} {ops : Array Oper} {rest : List Oper} {o : Oper} {a : Act} {Q : Exit → Act → World → Prop} {e : TypeId}
/-- '[]byte(s)'. -/
theorem conv_bytes {W : World} {s : ByteArray} {src dst : TypeId} (hg : Region.wanted o (yielded ops a.tmps) = true) (x : Operand) (ho : o.op = .convert src dst x) (hs : P.underlying src = some .string) (ht : P.underlying dst = some (.slice e)) (he : P.underlying e = some (.int .u8))
    (hx : a.eval x = .string s) (hm : s.size ≤ maxLen)
    (h : ∀ ao c w', Sl w' 1 ao s.size c (bv s.data.toList) → Same W w' → wpList P ops Q rest (a.put o.dst (.slice ao s.size c)) w') : wpList P ops Q (o :: rest) a W := by
  refine wpL hg fun K hK => ?_
  unfold Oper.wp execOp
  simp only [ho, Sem.run_bind, Sem.run_pure, Result.andThen_ok, hx, Lib.run_convert_string_bytes W src dst e s hs ht he]
  refine hK _ _ (h _ _ _ ⟨by rw [bv_length, Nat.mul_one]; simp, grownCap_ge _ _ _ _, grownCap_le_maxLen _ _ _ _ hm, (fun e => by cases e), ?_⟩ ⟨rfl, rfl, rfl, by rw [Lib.bytesWorld_size]; omega, fun k hk => Lib.bytesWorld_at_old W e s k hk⟩)
  intro b hb j u hu
  injection hb with hb
  subst hb
  have hj : j < s.size := by
    have := (List.getElem?_eq_some_iff.1 hu).1
    rw [bv_length] at this
    simpa using this
  have hj2 : j < s.data.toList.length := by simpa using hj
  rw [add0, Lib.bytesWorld_cell W e s j hj]
  rw [bv_get hj2] at hu
  injection hu with hu
  rw [← hu]
  congr 2
  simp only [List.getD, List.getElem?_eq_getElem hj2, Option.getD_some]
end
/-- What identity id's key is made of. -/
def Sha.idKey (seed : List UInt8) (id : Int) : List UInt8 := Sha.sum (Num.putT seed ++ Num.putI id)
def Sha.tagOf (seed : List UInt8) (id : Int) (body : List UInt8) : List UInt8 := (Sha.mac (Sha.idKey seed id) body).take 16
def noTag : List UInt8 := List.replicate 16 0
/-- The tag and the error's number. -/
def Sha.sign (seed : List UInt8) (n : Nat) (id : Int) (body : List UInt8) : List UInt8 × Nat :=
  if n = 0 then (noTag, 1) else if id < 0 ∨ (n : Int) ≤ id then (noTag, 2) else (Sha.tagOf seed id body, 0)
theorem Sha.idKey_length (seed : List UInt8) (id : Int) : (Sha.idKey seed id).length = 32 := Sha.sum_length _
theorem Sha.mac_length (key b : List UInt8) : (Sha.mac key b).length = 32 := by rw [Sha.mac_eq, Sha.sum_length]
theorem Sha.tagOf_length (seed : List UInt8) (id : Int) (body : List UInt8) : (Sha.tagOf seed id body).length = 16 := by rw [Sha.tagOf, List.length_take, Sha.mac_length]; rfl
theorem noTag_length : noTag.length = 16 := rfl
theorem Sha.sign_length (seed : List UInt8) (n : Nat) (id : Int) (body : List UInt8) : (Sha.sign seed n id body).1.length = 16 := by
  unfold Sha.sign
  split
  · rfl
  · split
    · rfl
    · exact Sha.tagOf_length _ _ _
theorem Sha.tagOf_eq (seed : List UInt8) (id : Int) (body : List UInt8) : Sha.tagOf seed id body = (Sha.mac (Sha.idKey seed id) body).take 16 := rfl
theorem Sha.idKey_eq (seed : List UInt8) (id : Int) : Sha.idKey seed id = Sha.sum (Num.putT seed ++ Num.putI id) := rfl
/-- Keys at p: a seed, and how many identities; or none at all. -/
def KeysAt (w : World) (p : Option Addr) (seed : ByteArray) (n : Nat) : Prop :=
  p = none ∧ n = 0 ∨ ∃ kb, p = some ⟨kb, 0, none⟩ ∧ w.heap[kb]? = some (.cells #[.string seed, .int .i64 (n : Int)] 210 (0, 0))
theorem KeysAt.same {w w' : World} {p : Option Addr} {seed : ByteArray} {n : Nat} (h : KeysAt w p seed n) (k : Same w w') : KeysAt w' p seed n := by
  rcases h with h | ⟨kb, h1, h2⟩
  · exact .inl h
  · exact .inr ⟨kb, h1, (k.block _ (blk_lt h2)).trans h2⟩
theorem tag_info {l : List UInt8} (hl : l.length = 16) : (Try.prog.info? 76).map (·.size) = some (bv l).toArray.size := by
  rw [List.size_toArray, bv_length, hl]
  kernel_rfl
set_option maxRecDepth 100000 in
set_option maxHeartbeats 400000 in
theorem klen_any (w : World) (p : Option Addr) (seed : ByteArray) (n : Nat) (h : KeysAt w p seed n) :
    Calls Try.prog 90 #[.pointer p] w fun e w' => e = .returned (.int .i64 (n : Int)) ∧ w = w' := by
  rcases h with ⟨rfl, rfl⟩ | ⟨kb, rfl, hb⟩
  · go_enter Try.func90, Try.ntmps90
    go_wp2
    go_ret
    exact ⟨rfl, rfl⟩
  · have c1 := blk_cell hb 1
    simp at c1
    clear hb
    go_enter Try.func90, Try.ntmps90
    go_wp2
    go_ret
    exact ⟨rfl, rfl⟩
theorem derive_none (w : World) (seed : ByteArray) (n : Int) (h : n < 1 ∨ 1 ≤ n ∧ 4096 < n ∨ 1 ≤ n ∧ n ≤ 4096 ∧ 64 < seed.size) :
    Calls Try.prog 89 #[.string seed, .int .i64 n] w fun e w' => e = .returned (.pointer none) ∧ w = w' := by
  rcases h with h | ⟨h, h'⟩ | ⟨h, h', h''⟩
  all_goals
    go_enter Try.func89, Try.ntmps89
    go_wp2
    go_ret
    exact ⟨rfl, rfl⟩
set_option maxRecDepth 100000 in
set_option maxHeartbeats 400000 in
theorem derive_some (w : World) (seed : ByteArray) (n : Nat) (h1 : 1 ≤ n) (h2 : n ≤ 4096) (h3 : seed.size ≤ 64) :
    Calls Try.prog 89 #[.string seed, .int .i64 n] w fun e w' => ∃ p, e = .returned (.pointer (some p)) ∧ KeysAt w' (some p) seed n ∧ Same w w' := by
  have h1' : (1 : Int) ≤ n := by omega
  have h2' : (n : Int) ≤ 4096 := by omega
  go_enter Try.func89, Try.ntmps89
  go_wp2
  go_ret
  exact ⟨_, rfl, .inr ⟨_, rfl, heap_alloc_new _ _⟩, Same.refl.alloc _⟩
/-- A tag and an error. -/
def RetTag (w : World) (x : List UInt8 × Nat) (e : Ending) (w' : World) : Prop := e = .returned (.tuple #[.agg (bv x.1).toArray, .int .i64 (x.2 : Int)]) ∧ Same w w'
set_option maxRecDepth 100000 in
set_option maxHeartbeats 1600000 in
theorem sign_any (w : World) (p : Option Addr) (seed : ByteArray) (n : Nat) (id : Int) (body : ByteArray) (h : KeysAt w p seed n) (hs : seed.size ≤ 1000000) (hb : body.size ≤ 1000000) (hn : n ≤ 1000000) :
    Calls Try.prog 140 #[.pointer p, .int .i64 id, .string body] w (RetTag w (Sha.sign seed.data.toList n id body.data.toList)) := by
  have hinfT := Lib.hid (tag_info noTag_length)
  have hlen := fun w h => klen_any w p seed n h
  replace hlen := Lib.hid hlen
  by_cases h0 : n = 0
  · subst h0
    have hr : Sha.sign seed.data.toList 0 id body.data.toList = (noTag, 1) := rfl
    rw [hr]
    clear hr
    replace h := Lib.hid h
    go_enter Try.func140, Try.ntmps140
    go_upto_region 1 with (refine alloc_new rfl 76 rfl (bv noTag).toArray (by kernel_rfl) ?_; intro w1 hd hs1; have hdl := blk_lt hd; replace hd := Lib.hid hd; replace hs1 := Lib.hid hs1)
    have hk1 := h.out.same hs1.out
    replace hk1 := Lib.hid hk1
    go_wp2_with fail
    refine (hlen.out _ hk1.out).mono ?_
    rintro e w2 ⟨rfl, rfl⟩
    go_wp2_with (first | (refine load_row rfl _ _ rfl w.heap.size rfl _ _ _ _ hd.out Try.underlying76 rfl hinfT.out ?_) | (refine store_row rfl _ _ _ rfl w.heap.size _ rfl rfl _ _ hd.out hinfT.out rfl (by simpa using bv_cell) ?_; intro w3 hb3 hk3; replace hb3 := Lib.hid hb3; replace hk3 := Lib.hid hk3))
    refine bodyPost_ret (v := .tuple #[.agg (bv noTag).toArray, .int .i64 1]) (results_row2 (p := 6) (q := 7) (ty := 76) rfl _ _ w.heap.size _ _ _ _ _ rfl rfl hb3.out Try.underlying76 rfl hinfT.out) rfl ?_
    exact ⟨rfl, hs1.out.keep hk3.out (fun x hx hv => by omega)⟩
  · by_cases hi : id < 0 ∨ (n : Int) ≤ id
    · have hr : Sha.sign seed.data.toList n id body.data.toList = (noTag, 2) := by rw [Sha.sign, if_neg h0, if_pos hi]
      rw [hr]
      obtain ⟨kb, rfl, hkb⟩ := h.resolve_left (fun h => h0 h.2)
      have hz : ((n : Int) == 0) = false := by simp; omega
      have hkl := blk_lt hkb
      clear hr h0
      replace h := Lib.hid h
      replace hkb := Lib.hid hkb
      have key : ∀ hi : id < 0 ∨ 0 ≤ id ∧ (n : Int) ≤ id, Calls Try.prog 140 #[.pointer (some ⟨kb, 0, none⟩), .int .i64 id, .string body] w (RetTag w (noTag, 2)) := by
        intro hi
        rcases hi with hi | ⟨hi, hi'⟩
        all_goals
          go_enter Try.func140, Try.ntmps140
          go_upto_region 1 with (refine alloc_new rfl 76 rfl (bv noTag).toArray (by kernel_rfl) ?_; intro w1 hd hs1; have hdl := blk_lt hd; replace hd := Lib.hid hd; replace hs1 := Lib.hid hs1)
          have hk1 := h.out.same hs1.out
          have c1 := blk_cell ((hs1.out.block _ hkl).trans hkb.out) 1
          simp at c1
          replace hk1 := Lib.hid hk1
          go_wp2_with fail
          refine (hlen.out _ hk1.out).mono ?_
          rintro e w2 ⟨rfl, rfl⟩
          go_wp2_with (first | (refine load_row rfl _ _ rfl w.heap.size rfl _ _ _ _ hd.out Try.underlying76 rfl hinfT.out ?_) | (refine store_row rfl _ _ _ rfl w.heap.size _ rfl rfl _ _ hd.out hinfT.out rfl (by simpa using bv_cell) ?_; intro w3 hb3 hk3; replace hb3 := Lib.hid hb3; replace hk3 := Lib.hid hk3))
          refine bodyPost_ret (v := .tuple #[.agg (bv noTag).toArray, .int .i64 2]) (results_row2 (p := 6) (q := 7) (ty := 76) rfl _ _ w.heap.size _ _ _ _ _ rfl rfl hb3.out Try.underlying76 rfl hinfT.out) rfl ?_
          exact ⟨rfl, hs1.out.keep hk3.out (fun x hx hv => by omega)⟩
      exact key (by omega)
    · have hr : Sha.sign seed.data.toList n id body.data.toList = (Sha.tagOf seed.data.toList id body.data.toList, 0) := by rw [Sha.sign, if_neg h0, if_neg hi]
      rw [hr]
      obtain ⟨kb, rfl, hkb⟩ := h.resolve_left (fun h => h0 h.2)
      have hz : ((n : Int) == 0) = false := by simp; omega
      have hkl := blk_lt hkb
      obtain ⟨m, rfl⟩ : ∃ m : Nat, id = (m : Int) := ⟨id.toNat, by omega⟩
      have hmn : (m : Int) < (n : Int) := by omega
      have q0 : 0 ≤ (m : Int) := by omega
      have hpt := fun w => putText_any none 0 0 [] seed w (Sl.none w 1) (by omega) (by omega)
      have hpi := fun w => put_any none 0 0 [] (m : Int) w (Sl.none w 1) (by omega) (by omega)
      simp only [List.nil_append] at hpt hpi
      have hTg := Sha.tagOf_eq seed.data.toList (m : Int) body.data.toList
      have hKe := Sha.idKey_eq seed.data.toList (m : Int)
      have hKl := Sha.idKey_length seed.data.toList (m : Int)
      have hMl := Sha.mac_length (Sha.idKey seed.data.toList (m : Int)) body.data.toList
      have hTl := Sha.tagOf_length seed.data.toList (m : Int) body.data.toList
      have hptl : (Num.putT seed.data.toList).length ≤ 2000000 := by
        have h1 := Num.putN_le (n := seed.data.toList.length) (by simp; omega)
        rw [Num.putT, List.length_append]
        simp at h1 ⊢
        omega
      have hpil : (Num.putI (m : Int)).length ≤ 9 := by rw [Num.putI_nat]; exact Num.putN_le (by omega)
      obtain ⟨A, hA⟩ : ∃ A, A = Num.putT seed.data.toList := ⟨_, rfl⟩
      obtain ⟨B, hB⟩ : ∃ B, B = Num.putI (m : Int) := ⟨_, rfl⟩
      rw [← hA] at hpt hptl hKe
      rw [← hB] at hpi hpil hKe
      obtain ⟨K, hK⟩ : ∃ K, K = Sha.idKey seed.data.toList (m : Int) := ⟨_, rfl⟩
      rw [← hK] at hTg hKl hKe hMl
      obtain ⟨D, hD⟩ : ∃ D, D = body.data.toList := ⟨_, rfl⟩
      rw [← hD] at hTg hMl hTl ⊢
      have hDl : D.length = body.size := by rw [hD]; simp
      obtain ⟨M, hM⟩ : ∃ M, M = Sha.mac K D := ⟨_, rfl⟩
      rw [← hM] at hTg hMl
      have hsum := fun w po pn pc vs h1 h2 => sum_any po pn pc vs [A, B] w h1 h2 (by simp; omega)
      have hfl : [A, B].flatten = A ++ B := by simp
      rw [hfl, ← hKe] at hsum
      have hmac := fun w ko kc hk po vs h1 h2 => mac_any w ko 32 kc K hk (by omega) po 1 1 vs [D] h1 h2 (by simp; omega) (by omega)
      rw [show [D].flatten = D from by simp, ← hM] at hmac
      have hinfK := Lib.hid (dig_info hKl)
      have hinfM := Lib.hid (dig_info hMl)
      have hinfG := Lib.hid (tag_info hTl)
      clear hr h0 hA hB hK hfl hKe hM hi
      obtain ⟨T, hT⟩ : ∃ T, T = Sha.tagOf seed.data.toList (m : Int) D := ⟨_, rfl⟩
      rw [← hT] at hTg hTl hinfG
      have c0 := blk_cell hkb 0
      have c1 := blk_cell hkb 1
      simp at c0 c1
      replace h := Lib.hid h
      replace hkb := Lib.hid hkb
      replace hpt := Lib.hid hpt
      replace hpi := Lib.hid hpi
      replace hTg := Lib.hid hTg
      replace hKl := Lib.hid hKl
      replace hMl := Lib.hid hMl
      replace hTl := Lib.hid hTl
      replace hsum := Lib.hid hsum
      replace hmac := Lib.hid hmac
      replace hD := Lib.hid hD
      replace hDl := Lib.hid hDl
      replace hT := Lib.hid hT
      replace c0 := Lib.hid c0
      replace c1 := Lib.hid c1
      go_enter Try.func140, Try.ntmps140
      go_upto_region 1 with (refine alloc_new rfl 76 rfl (bv noTag).toArray (by kernel_rfl) ?_; intro w1 hd hs1; have hdl := blk_lt hd; replace hd := Lib.hid hd; replace hs1 := Lib.hid hs1)
      have hk1 := h.out.same hs1.out
      have d1 := hs1.out.cell c1.out
      have d0 := hs1.out.cell c0.out
      replace hk1 := Lib.hid hk1
      go_wp2_with fail
      refine (hlen.out _ hk1.out).mono ?_
      rintro e w2 ⟨rfl, rfl⟩
      clear h hkb c0 c1
      go_wp2_with fail
      refine (hpt.out _).mono ?_
      rintro e w3 ⟨v3, rfl, ho3, hs3⟩
      clear d0 d1
      go_wp2_with fail
      refine (hpi.out _).mono ?_
      rintro e w4 ⟨a4, n4, rfl, hsl4, hs4⟩
      obtain ⟨a3, n3, rfl, hsl3⟩ := ho3.sl
      have hsl3 := hsl3.same hs4
      clear ho3
      have hbx := sl_box (w := w4) (e := 143) [.slice a3 A.length n3, .slice a4 B.length n4] 2 rfl (by unfold maxLen; omega)
      have hpx := (Sls.cons hsl3 (Sls.cons hsl4 (Sls.nil w4))).box (e := 143)
      have hsm := hsum.out _ _ _ _ _ hbx hpx
      have hs14 := hs3.trans hs4
      clear hbx hpx hsl3 hsl4 hs3 hs4 hsum
      replace hsm := Lib.hid hsm
      replace hs14 := Lib.hid hs14
      go_wp2_with fail
      refine hsm.out.mono ?_
      rintro e w5 ⟨rfl, hs5⟩
      have hs15 := hs14.out.trans ((Same.refl.alloc _).trans hs5)
      clear hs5 hsm hs14
      replace hs15 := Lib.hid hs15
      go_upto_region 6 with (first | (refine alloc_new rfl 29 rfl (bv (List.replicate 32 0)).toArray (by kernel_rfl) ?_; intro w6 hb6 hs6; have hb6l := blk_lt hb6; replace hb6 := Lib.hid hb6; replace hs6 := Lib.hid hs6) | (refine store_row rfl _ _ _ rfl w5.heap.size _ rfl rfl _ _ hb6.out hinfK.out (by rw [List.size_toArray, List.size_toArray, bv_length, bv_length, hKl.out]; rfl) (by simpa using bv_cell) ?_; intro w7 hb7 hk7))
      have hs17 : Same w1 w7 := (hs15.out.trans hs6.out).keep hk7 (fun x hx hv => by have := hs15.out.size; omega)
      have hksl := dig_conv hKl.out hb7
      clear hk7 hb6 hs6 hs15
      replace hs17 := Lib.hid hs17
      replace hksl := Lib.hid hksl
      go_simp
      have hbs : body.size ≤ maxLen := by unfold maxLen; omega
      go_wp2_with (refine conv_bytes rfl _ rfl strT byT.under u8T rfl hbs ?_; intro bo bc w8 hbsl hs8; rw [← hD.out] at hbsl; replace hbsl := Lib.hid hbsl; replace hs8 := Lib.hid hs8)
      have hbx := sl_box (w := w8) (e := 143) [.slice bo body.size bc] 1 rfl (by unfold maxLen; omega)
      have hpx := (Sls.cons hbsl.out (Sls.nil w8)).box (e := 143)
      have hmm := hmac.out _ _ _ ((hksl.out.same hs8.out).same (Same.refl.alloc (.cells #[.slice bo body.size bc] 143))) _ _ hbx hpx
      have hs18 := hs17.out.trans hs8.out
      clear hbx hpx hmac hbsl hs17 hs8 hksl
      replace hmm := Lib.hid hmm
      replace hs18 := Lib.hid hs18
      refine hmm.out.mono ?_
      rintro e w9 ⟨rfl, hs9⟩
      have hs19 := hs18.out.trans ((Same.refl.alloc _).trans hs9)
      clear hs18 hs9 hmm
      replace hs19 := Lib.hid hs19
      go_upto_region 7 with (first | (refine alloc_new rfl 29 rfl (bv (List.replicate 32 0)).toArray (by kernel_rfl) ?_; intro wa hba hsa; have hbal := blk_lt hba; replace hba := Lib.hid hba; replace hsa := Lib.hid hsa) | (refine store_row rfl _ _ _ rfl w9.heap.size _ rfl rfl _ _ hba.out hinfM.out (by rw [List.size_toArray, List.size_toArray, bv_length, bv_length, hMl.out]; rfl) (by simpa using bv_cell) ?_; intro wb hbb hkb2))
      have hs1b : Same w1 wb := (hs19.out.trans hsa.out).keep hkb2 (fun x hx hv => by have := hs19.out.size; omega)
      have hdb := (hs1b.block _ hdl).trans hd.out
      have hdbl := blk_lt hdb
      have hbbl := blk_lt hbb
      have hs9z := hs19.out.size
      clear hkb2 hba hsa hs19 hd
      replace hs1b := Lib.hid hs1b
      replace hdb := Lib.hid hdb
      replace hbb := Lib.hid hbb
      go_simp
      refine wp_region_tails (by kernel_rfl) [(39, 0), (40, 1)] Same (Same _) [isV (.slice (some ⟨w.heap.size, 0, none⟩) 16 16), isV (.slice (some ⟨w9.heap.size, 0, none⟩) 32 32)] Same.refl.drew (fun _ _ h k => h.trans k) (by simp [isV_stable, isB_stable, isAny_stable]) (by decide) (l := [_, _]) rfl (by decide) (by kernel_rfl) ?_ ?_
      · refine ⟨?_, ?_, trivial⟩
        all_goals (intro u wx hI hp; simp only [mkAct, List.foldl_cons, List.foldl_nil, List.setIfInBounds_toArray, List.set_cons_succ, List.set_cons_zero])
        · -- operation 0
          go_wp2
          refine stq_v rfl Same.refl ?_
          first | (simp only [mkAct, List.foldl_cons, List.foldl_nil, List.setIfInBounds_toArray, List.set_cons_succ, List.set_cons_zero, upd, reduceIte, Nat.reduceEqDiff, Nat.reduceAdd, str]; done) | (simp [mkAct, upd, str, *]; done)
        · -- operation 1
          go_wp2
          refine stq_v rfl Same.refl ?_
          first | (simp only [mkAct, List.foldl_cons, List.foldl_nil, List.setIfInBounds_toArray, List.set_cons_succ, List.set_cons_zero, upd, reduceIte, Nat.reduceEqDiff, Nat.reduceAdd, str]; done) | (simp [mkAct, upd, str, *]; done)
      · intro u wx hI hR
        obtain ⟨r0, r1, -⟩ := hR
        replace r0 : u 0 = (.slice (some ⟨w.heap.size, 0, none⟩) 16 16) := r0
        replace r1 : u 1 = (.slice (some ⟨w9.heap.size, 0, none⟩) 32 32) := r1
        simp only [mkAct, List.foldl_cons, List.foldl_nil, List.setIfInBounds_toArray, List.set_cons_succ, List.set_cons_zero]
        try simp only [str, r0, r1]
        have hcs : ∀ j v, (bv T)[j]? = some v → wx.cell? ((⟨w9.heap.size, 0, none⟩ : Addr).add j) = some v := by
          intro j v hj
          have hjl := (List.getElem?_eq_some_iff.1 hj).1
          rw [bv_length, hTl.out] at hjl
          rw [hTg.out, ← bv_take, List.getElem?_take, if_pos hjl] at hj
          rw [add0, blk_cell ((hI.block _ hbbl).trans hbb.out)]
          simpa using hj
        have hdx := (hI.block _ hdbl).trans hdb.out
        have hTn : (bv T).length = Nat.min 32 16 := by rw [bv_length, hTl.out]; rfl
        have hTf : 0 + (bv T).length ≤ (bv noTag).toArray.size := by rw [bv_length, hTl.out]; simp [bv_length, noTag]
        have hTe : ((bv noTag).toArray.toList.take 0 ++ (bv T ++ (bv noTag).toArray.toList.drop (0 + (bv T).length))).toArray = (bv T).toArray := by rw [bv_length, hTl.out]; simp [bv, noTag]
        replace hTe := Lib.hid hTe
        replace hcs := Lib.hid hcs
        replace hdx := Lib.hid hdx
        replace hTn := Lib.hid hTn
        replace hTf := Lib.hid hTf
        go_wp2_with (first | (refine copy_row rfl _ _ _ _ rfl byT.under (by kernel_rfl) w.heap.size 0 16 16 ⟨w9.heap.size, 0, none⟩ 32 32 rfl rfl _ _ hdx.out (bv T) hTn.out hcs.out hTf.out bv_cell ?_; intro wc hbc hkc; rw [hTe.out] at hbc; replace hbc := Lib.hid hbc; replace hkc := Lib.hid hkc) | (refine load_row rfl _ _ rfl w.heap.size rfl _ _ _ _ hbc.out Try.underlying76 rfl hinfG.out ?_) | (refine store_row rfl _ _ _ rfl w.heap.size _ rfl rfl _ _ hbc.out hinfG.out rfl (by simpa using bv_cell) ?_; intro wd hbd hkd; replace hbd := Lib.hid hbd; replace hkd := Lib.hid hkd))
        refine bodyPost_ret (v := .tuple #[.agg (bv T).toArray, .int .i64 0]) (results_row2 (p := 6) (q := 7) (ty := 76) rfl _ _ w.heap.size _ _ _ _ _ rfl rfl hbd.out Try.underlying76 rfl hinfG.out) rfl ?_
        have hsx := ((hs1.out.trans hs1b.out).trans hI).keep hkc.out (fun x hx hv => by omega)
        exact ⟨by rw [hT.out]; rfl, hsx.keep hkd.out (fun x hx hv => by omega)⟩
/-- Is it the tag? -/
def Sha.check (seed : List UInt8) (n : Nat) (id : Int) (body t : List UInt8) : Bool := decide ((Sha.sign seed n id body).2 = 0) && ((Sha.sign seed n id body).1 == t)
set_option maxRecDepth 100000 in
set_option maxHeartbeats 800000 in
theorem check_any (w : World) (p : Option Addr) (seed : ByteArray) (n : Nat) (id : Int) (body : ByteArray) (t : List UInt8) (ht : t.length = 16) (h : KeysAt w p seed n) (hs : seed.size ≤ 1000000) (hb : body.size ≤ 1000000) (hn : n ≤ 1000000) :
    Calls Try.prog 92 #[.pointer p, .int .i64 id, .string body, .agg (bv t).toArray] w fun e w' => e = .returned (.bool (Sha.check seed.data.toList n id body.data.toList t)) ∧ Same w w' := by
  have hsg := fun w h => sign_any w p seed n id body h hs hb hn
  have hXl := Sha.sign_length seed.data.toList n id body.data.toList
  unfold Sha.check
  obtain ⟨X, hX⟩ : ∃ X, X = Sha.sign seed.data.toList n id body.data.toList := ⟨_, rfl⟩
  rw [← hX] at hsg hXl ⊢
  have hinfT := Lib.hid (tag_info ht)
  have hinfX := Lib.hid (tag_info hXl)
  have he := fun w => tag_eql X.1 t hXl ht w
  obtain ⟨c, hc⟩ : ∃ c, c = (X.1 == t) := ⟨_, rfl⟩
  rw [← hc] at he ⊢
  obtain ⟨E, hE⟩ : ∃ E, E = X.2 := ⟨_, rfl⟩
  unfold RetTag at hsg
  rw [← hE] at hsg ⊢
  clear hX hc hE hs hb hn
  replace hsg := Lib.hid hsg
  replace h := Lib.hid h
  replace he := Lib.hid he
  replace hXl := Lib.hid hXl
  replace ht := Lib.hid ht
  by_cases h0 : E = 0
  all_goals
    first | (have hz : ((E : Int) == 0) = true := by simp [h0]) | (have hz : ((E : Int) == 0) = false := by simp; omega)
    go_enter Try.func92, Try.ntmps92
    go_upto_region 1 with (refine box_row rfl _ _ rfl _ rfl hinfT.out ?_; intro w0 hbx hs0; have hbxl := blk_lt hbx; replace hbx := Lib.hid hbx; replace hs0 := Lib.hid hs0)
    have hk0 := h.out.same hs0.out
    replace hk0 := Lib.hid hk0
    go_wp2_with fail
    refine (hsg.out _ hk0.out).mono ?_
    rintro e w1 ⟨rfl, hs1⟩
    have hbx1 := (hs1.block _ hbxl).trans hbx.out
    have hbxl1 := blk_lt hbx1
    replace hs1 := Lib.hid hs1
    replace hbx1 := Lib.hid hbx1
    go_upto_region 2 with (first | (refine alloc_new rfl 76 rfl (bv noTag).toArray (by kernel_rfl) ?_; intro w2 hb2 hs2; have hb2l := blk_lt hb2; replace hb2 := Lib.hid hb2; replace hs2 := Lib.hid hs2) | (refine store_row rfl _ _ _ rfl w1.heap.size _ rfl rfl _ _ hb2.out hinfX.out (by rw [List.size_toArray, List.size_toArray, bv_length, bv_length, hXl.out]; rfl) (by simpa using bv_cell) ?_; intro w3 hb3 hk3))
    have hs13 : Same w1 w3 := hs2.out.keep hk3 (fun x hx hv => by omega)
    have hbx3 := (hs13.block _ hbxl1).trans hbx1.out
    have hs03 := (hs0.out.trans hs1.out).trans hs13
    have he := he.out
    have hgd := tag_guard
    clear hk3 hs2 hb2
    replace hs03 := Lib.hid hs03
    replace hbx3 := Lib.hid hbx3
    replace hb3 := Lib.hid hb3
    go_simp
    go_wp2_with (first | (refine load_row rfl _ _ rfl w1.heap.size rfl _ _ _ _ hb3.out Try.underlying76 rfl hinfX.out ?_) | (refine load_row rfl _ _ rfl w.heap.size rfl _ _ _ _ hbx3.out Try.underlying76 rfl hinfT.out ?_))
    go_ret
    exact ⟨by simp [h0], hs03.out⟩
end Go.Proofs.Ytgdkhiihdoekaaa
