/-
  The document's reader (raddleref01): Read, Num, Text, Raw, Left, Done, as the words of Num tell them.
-/
import Derived.Test.YtmacgmmjgdmleaaShaRef3
import Derived.Test.YtmacgmmjgdmleaaMut
import Derived.Deep.DeepCutAuto
import Derived.Deep.QuietTactic
import Derived.BigQuiet
namespace Go.Proofs.Ytmacgmmjgdmleaa
open Go Go.RowKit
set_option linter.unusedSimpArgs false
set_option linter.unusedVariables false

/-- The document's reader at block rb, its bytes in block db: what is left, and its error. -/
def RRdr (w : World) (rb db : Nat) (s : List UInt8 × Nat) : Prop :=
  ∃ ao n c, ∃ l : List UInt8, ∃ k : Nat, w.heap[rb]? = some (.cells #[.slice ao n c, .int .i64 (k : Int), .int .i64 (s.2 : Int)] 180 (0, 0)) ∧ Sl w 1 ao n c (bv l) ∧ k ≤ n ∧ (s.2 = 0 → s.1 = l.drop k) ∧ (∀ b, ao = some b → b.block = db) ∧ s.2 ≤ 1000 ∧ db ≠ rb ∧ db < w.heap.size
section
variable {w w' : World} {rb db : Nat} {s : List UInt8 × Nat}
theorem RRdr.keep {p : Nat → Prop} (h : RRdr w rb db s) (k : Keep p w w') (hr : ¬ p rb) (hp : ¬ p db) : RRdr w' rb db s := by
  obtain ⟨ao, n, c, l, at', hb, hsl, hat, hs, hne, he, hd, hlt⟩ := h
  exact ⟨ao, n, c, l, at', (k.block rb (blk_lt hb) hr).trans hb, hsl.keep k (fun b hb' _ => by rw [hne b hb']; exact hp), hat, hs, hne, he, hd, Nat.lt_of_lt_of_le hlt k.size⟩
theorem RRdr.same (h : RRdr w rb db s) (k : Same w w') : RRdr w' rb db s := h.keep (Keep.of_same (p := fun _ => False) k) id id
theorem RRdr.lt (h : RRdr w rb db s) : rb < w.heap.size ∧ db < w.heap.size ∧ db ≠ rb := by
  obtain ⟨ao, n, c, l, at', hb, hsl, hat, hs, hne, he, hd, hlt⟩ := h
  exact ⟨blk_lt hb, hlt, hd⟩
theorem RRdr.err (h : RRdr w rb db s) : w.cell? ⟨rb, 2, none⟩ = some (.int .i64 (s.2 : Int)) := by
  obtain ⟨ao, n, c, l, at', hb, _⟩ := h
  simpa using blk_cell hb 2
theorem RRdr.len (h : RRdr w rb db s) (he : s.2 = 0) : s.1.length ≤ 9223372036854775807 := by
  obtain ⟨ao, n, c, l, k, hb, hsl, hat, hs, _⟩ := h
  have h1 := hsl.len
  have h2 := hsl.cap
  have h3 := hsl.most
  rw [bv_length] at h1
  unfold maxLen at h3
  rw [hs he, List.length_drop]
  omega
/-- The error is laid. -/
theorem RRdr.bad (h : RRdr w rb db s) (e : Nat) (he : e ≤ 1000) (h0 : 0 < e) : RRdr (w.setCell ⟨rb, 2, none⟩ (.int .i64 (e : Int))) rb db ([], e) ∧ Keep (· = rb) w (w.setCell ⟨rb, 2, none⟩ (.int .i64 (e : Int))) := by
  obtain ⟨ao, n, c, l, k, hb, hsl, hat, hs, hne, he', hd, hlt⟩ := h
  have kp : Keep (· = rb) w (w.setCell ⟨rb, 2, none⟩ (.int .i64 (e : Int))) := Keep.setCell _ rfl
  refine ⟨⟨ao, n, c, l, k, (blk_set hb).trans rfl, hsl.keep kp (fun b hb' _ => by rw [hne b hb']; exact hd), hat, fun h => by simp at h; omega, hne, he, hd, by simpa [World.setCell] using hlt⟩, kp⟩
end
set_option maxRecDepth 100000 in
set_option maxHeartbeats 1000000 in
theorem rnumber_any (rb db : Nat) (s : List UInt8 × Nat) (w : World) (h : RRdr w rb db s) (he : s.2 = 0) :
    Calls Try.prog 157 #[.pointer (some ⟨rb, 0, none⟩)] w fun e w' => e = .returned (num3 (Num.numAt s.1)) ∧ Same w w' := by
  obtain ⟨ao, n, c, l, k, hb, hsl, hat, hs, hne, he', hd, hlt⟩ := h
  have hs1 := hs he
  have hl0 := hsl.len
  rw [bv_length] at hl0
  have hcap := hsl.cap
  have hmost := hsl.most
  unfold maxLen at hmost
  obtain ⟨S, hS⟩ : ∃ S, S = s.1 := ⟨_, rfl⟩
  rw [← hS] at hs1 ⊢
  have hSl : S.length = n - k := by rw [hs1, List.length_drop]; omega
  have hsd : bv S = (bv l).drop (k * 1) := by rw [hs1, Nat.mul_one, bv_drop]
  have c0 := blk_cell hb 0
  have c1 := blk_cell hb 1
  simp at c0 c1
  obtain ⟨R, hR⟩ : ∃ R, R = num3 (Num.numAt S) := ⟨_, rfl⟩
  rw [← hR]
  replace hR := Lib.hid hR
  clear hs hS hs1 he he' hne hd hlt
  replace hb := Lib.hid hb
  replace hsl := Lib.hid hsl
  replace c0 := Lib.hid c0
  replace c1 := Lib.hid c1
  replace hSl := Lib.hid hSl
  replace hsd := Lib.hid hsd
  go_enter Try.func157, Try.ntmps157
  go_upto_region 1 with fail
  go_cut [5] (fun v wx => ∃ ao' m c', v = .slice ao' m c' ∧ Sl wx 1 ao' m c' (bv S) ∧ Same w wx)
  case first =>
    refine wp_region_tails (by kernel_rfl) [(9, 0), (10, 1), (11, 2), (12, 3), (13, 4), (14, 5), (15, 6), (16, 7), (17, 8)] Same (Same _) [isV (.pointer (some ⟨rb, 0, none⟩)), isV (.pointer (some ⟨rb, 0, none⟩)), isV (.pointer (some ⟨rb, 0, none⟩)), isV (.slice ao n c), isV (.pointer (some ⟨rb, 0, none⟩)), isV (.pointer (some ⟨rb, 0, none⟩)), isV (.pointer (some ⟨rb, 1, none⟩)), isV (.int .i64 (k : Int)), isBn (n - k) S] Same.refl.drew (fun _ _ h k => h.trans k) (by simp [isV_stable, isB_stable, isAny_stable, isBn_stable]) (by decide) (l := [_, _, _, _, _, _, _, _, _]) rfl (by decide) (by kernel_rfl) ?_ ?_
    · refine ⟨?_, ?_, ?_, ?_, ?_, ?_, ?_, ?_, ?_, trivial⟩
      all_goals (intro u wx hI hp; simp only [mkAct, List.foldl_cons, List.foldl_nil, List.setIfInBounds_toArray, List.set_cons_succ, List.set_cons_zero])
      · -- operation 0
        go_wp2
        refine stq_v rfl Same.refl ?_
        first | (simp only [mkAct, List.foldl_cons, List.foldl_nil, List.setIfInBounds_toArray, List.set_cons_succ, List.set_cons_zero, upd, reduceIte, Nat.reduceEqDiff, Nat.reduceAdd, str]; done) | (simp [mkAct, upd, str, *]; done)
      · -- operation 1
        obtain ⟨f0, -⟩ := hp
        replace f0 : u 0 = (.pointer (some ⟨rb, 0, none⟩)) := f0
        try simp only [f0, str]
        go_wp2
        refine stq_v rfl Same.refl ?_
        first | (simp only [mkAct, List.foldl_cons, List.foldl_nil, List.setIfInBounds_toArray, List.set_cons_succ, List.set_cons_zero, upd, reduceIte, Nat.reduceEqDiff, Nat.reduceAdd, f0, str]; done) | (simp [mkAct, upd, f0, str, *]; done)
      · -- operation 2
        obtain ⟨f1, -⟩ := hp
        replace f1 : u 1 = (.pointer (some ⟨rb, 0, none⟩)) := f1
        try simp only [f1, str]
        go_wp2
        refine stq_v rfl Same.refl ?_
        first | (simp only [mkAct, List.foldl_cons, List.foldl_nil, List.setIfInBounds_toArray, List.set_cons_succ, List.set_cons_zero, upd, reduceIte, Nat.reduceEqDiff, Nat.reduceAdd, f1, str]; done) | (simp [mkAct, upd, f1, str, *]; done)
      · -- operation 3
        obtain ⟨f2, -⟩ := hp
        replace f2 : u 2 = (.pointer (some ⟨rb, 0, none⟩)) := f2
        try simp only [f2, str]
        have cx := hI.cell c0.out
        go_wp2
        refine stq_v rfl Same.refl ?_
        first | (simp only [mkAct, List.foldl_cons, List.foldl_nil, List.setIfInBounds_toArray, List.set_cons_succ, List.set_cons_zero, upd, reduceIte, Nat.reduceEqDiff, Nat.reduceAdd, f2, str]; done) | (simp [mkAct, upd, f2, str, *]; done)
      · -- operation 4
        go_wp2
        refine stq_v rfl Same.refl ?_
        first | (simp only [mkAct, List.foldl_cons, List.foldl_nil, List.setIfInBounds_toArray, List.set_cons_succ, List.set_cons_zero, upd, reduceIte, Nat.reduceEqDiff, Nat.reduceAdd, str]; done) | (simp [mkAct, upd, str, *]; done)
      · -- operation 5
        obtain ⟨f4, -⟩ := hp
        replace f4 : u 4 = (.pointer (some ⟨rb, 0, none⟩)) := f4
        try simp only [f4, str]
        go_wp2
        refine stq_v rfl Same.refl ?_
        first | (simp only [mkAct, List.foldl_cons, List.foldl_nil, List.setIfInBounds_toArray, List.set_cons_succ, List.set_cons_zero, upd, reduceIte, Nat.reduceEqDiff, Nat.reduceAdd, f4, str]; done) | (simp [mkAct, upd, f4, str, *]; done)
      · -- operation 6
        obtain ⟨f5, -⟩ := hp
        replace f5 : u 5 = (.pointer (some ⟨rb, 0, none⟩)) := f5
        try simp only [f5, str]
        go_wp2
        refine stq_v rfl Same.refl ?_
        first | (simp only [mkAct, List.foldl_cons, List.foldl_nil, List.setIfInBounds_toArray, List.set_cons_succ, List.set_cons_zero, upd, reduceIte, Nat.reduceEqDiff, Nat.reduceAdd, f5, str]; done) | (simp [mkAct, upd, f5, str, *]; done)
      · -- operation 7
        obtain ⟨f6, -⟩ := hp
        replace f6 : u 6 = (.pointer (some ⟨rb, 1, none⟩)) := f6
        try simp only [f6, str]
        have cx := hI.cell c1.out
        go_wp2
        refine stq_v rfl Same.refl ?_
        first | (simp only [mkAct, List.foldl_cons, List.foldl_nil, List.setIfInBounds_toArray, List.set_cons_succ, List.set_cons_zero, upd, reduceIte, Nat.reduceEqDiff, Nat.reduceAdd, f6, str]; done) | (simp [mkAct, upd, f6, str, *]; done)
      · -- operation 8
        obtain ⟨f3, f7, -⟩ := hp
        replace f3 : u 3 = (.slice ao n c) := f3
        replace f7 : u 7 = (.int .i64 (k : Int)) := f7
        try simp only [f3, f7, str]
        go_wp2_with (refine slice_from rfl _ _ rfl byT rfl .i64 _ k rfl rfl (by omega) (hsl.out.same hI) ?_; intro ao' hsl' hb''; clear hb''; rw [← hsd.out] at hsl')
        refine stq_x (.slice ao' (n - k) (c - k)) rfl ⟨ao', c - k, rfl, hsl'⟩ Same.refl ?_
        first | (simp only [mkAct, List.foldl_cons, List.foldl_nil, List.setIfInBounds_toArray, List.set_cons_succ, List.set_cons_zero, upd, reduceIte, Nat.reduceEqDiff, Nat.reduceAdd, f3, f7, str]; done) | (simp [mkAct, upd, f3, f7, str, *]; done)
    · intro u wx hI hR
      obtain ⟨r0, r1, r2, r3, r4, r5, r6, r7, r8, -⟩ := hR
      replace r0 : u 0 = (.pointer (some ⟨rb, 0, none⟩)) := r0
      replace r1 : u 1 = (.pointer (some ⟨rb, 0, none⟩)) := r1
      replace r2 : u 2 = (.pointer (some ⟨rb, 0, none⟩)) := r2
      replace r3 : u 3 = (.slice ao n c) := r3
      replace r4 : u 4 = (.pointer (some ⟨rb, 0, none⟩)) := r4
      replace r5 : u 5 = (.pointer (some ⟨rb, 0, none⟩)) := r5
      replace r6 : u 6 = (.pointer (some ⟨rb, 1, none⟩)) := r6
      replace r7 : u 7 = (.int .i64 (k : Int)) := r7
      obtain ⟨ao8, c8, r8, hsl8⟩ := r8
      simp only [mkAct, List.foldl_cons, List.foldl_nil, List.setIfInBounds_toArray, List.set_cons_succ, List.set_cons_zero]
      try simp only [str, r0, r1, r2, r3, r4, r5, r6, r7, r8]
      go_wp2_with fail
      go_meet
      exact ⟨_, _, _, rfl, hsl8, hI⟩
  case rest =>
    obtain ⟨ao', m, c', rfl, hsl', hs⟩ := hcut
    have hlen : S.length = m := by have := hsl'.len; rw [bv_length] at this; omega
    have hm : m ≤ 9223372036854775807 := by have := hsl'.cap; have := hsl'.most; unfold maxLen at this; omega
    have hcm := hsl'.cap
    clear hb hsl c0 c1 hSl hsd hl0 hcap hmost hat
    replace hs := Lib.hid hs
    rcases S with _ | ⟨x, t⟩
    · have hR2 : R = num3 (0, 0, 10) := hR.out
      replace hR2 := Lib.hid hR2
      clear hR
      obtain rfl : m = 0 := by simpa using hlen.symm
      go_wp2
      go_ret3
      exact ⟨by rw [hR2.out]; rfl, hs.out⟩
    · obtain ⟨bk, off, rfl, _, hcell⟩ := hsl'.at (by simp [bv])
      have hg : ∀ j, j < m → wc.cell? ⟨bk, off + j, none⟩ = some (.int .u8 (((x :: t).getD j 0).toNat : Int)) := by
        intro j hj
        have hj2 : j < (x :: t).length := by omega
        rw [hcell j _ (bv_get hj2)]
        simp only [List.getD, List.getElem?_eq_getElem hj2, Option.getD_some]
      have hx : wc.cell? ⟨bk, off, none⟩ = some (.int .u8 (x.toNat : Int)) := by simpa using hg 0 (by simp at hlen; omega)
      have hx256 : x.toNat < 256 := x.toNat_lt
      simp only [List.length_cons] at hlen
      have ht : ∀ j, j < t.length → wc.cell? ⟨bk, off + 1 + j, none⟩ = some (.int .u8 ((t.getD j 0).toNat : Int)) := by
        intro j hj
        have := hg (j + 1) (by omega)
        rw [show off + 1 + j = off + (j + 1) from by omega]
        simpa using this
      have h0 : ((m : Int) == 0) = false := by simp; omega
      have hm0 : 0 < m := by omega
      clear hsl' hcell hg
      obtain ⟨K, hK⟩ : ∃ K, K = x.toNat := ⟨_, rfl⟩
      have hR2 := hR.out
      clear hR
      rw [Num.numAt_cons, ← hK] at hR2
      rw [← hK] at hx hx256
      clear hK
      replace ht := Lib.hid ht
      by_cases h8 : 8 < K
      · rw [if_pos h8] at hR2
        replace hR2 := Lib.hid hR2
        replace hlen := Lib.hid hlen
        go_wp2
        go_ret3
        exact ⟨by rw [hR2.out]; rfl, hs.out⟩
      · rw [if_neg h8] at hR2
        by_cases h9 : t.length < K
        · rw [if_pos h9] at hR2
          replace hR2 := Lib.hid hR2
          have h9' : m < 1 + K := by omega
          replace hlen := Lib.hid hlen
          clear h9
          go_wp2
          go_ret3
          exact ⟨by rw [hR2.out]; rfl, hs.out⟩
        · rw [if_neg h9] at hR2
          have h9' : 1 + K ≤ m := by omega
          by_cases h10 : (0 < K ∧ t.getD 0 0 = 0) ∨ (K = 8 ∧ 127 < (t.getD 0 0).toNat)
          · rw [if_pos h10] at hR2
            replace hR2 := Lib.hid hR2
            by_cases h11 : 0 < K ∧ t.getD 0 0 = 0
            · have h12 := ht.out 0 (by omega)
              rw [h11.2] at h12
              have h13 := h11.1
              clear h10 h11 h9
              replace hlen := Lib.hid hlen
              go_wp2
              go_ret3
              exact ⟨by rw [hR2.out]; rfl, hs.out⟩
            · have h12 := h10.resolve_left h11
              have h13 := ht.out 0 (by omega)
              obtain ⟨h14, h15⟩ := h12
              obtain ⟨y, hy⟩ : ∃ y, y = (t.getD 0 0).toNat := ⟨_, rfl⟩
              rw [← hy] at h13 h15
              have hy1 : ((y : Int) == 0) = false := by simp; omega
              have hy2 : y < 256 := by rw [hy]; exact (t.getD 0 0).toNat_lt
              subst h14
              clear h10 h11 h9 hy
              replace hlen := Lib.hid hlen
              go_wp2
              go_ret3
              exact ⟨by rw [hR2.out]; rfl, hs.out⟩
          · rw [if_neg h10] at hR2
            clear h9
            have hkl : (t.take K).length = K := by rw [List.length_take]; omega
            have hdg : ∀ j, j < K → (t.take K).getD j 0 = t.getD j 0 := by
              intro j hj
              simp only [List.getD, List.getElem?_take, if_pos hj]
            obtain ⟨L, hL⟩ : ∃ L, L = t.take K := ⟨_, rfl⟩
            rw [← hL] at hkl hdg hR2
            replace hR2 := Lib.hid hR2
            have hLc : ∀ j, j < K → wc.cell? ⟨bk, off + 1 + j, none⟩ = some (.int .u8 ((L.getD j 0).toNat : Int)) := fun j hj => by rw [hdg j hj]; exact ht.out j (by omega)
            have hfirst : 0 < K → L.getD 0 0 ≠ 0 := fun h h2 => h10 (.inl ⟨h, by rw [← hdg 0 h]; exact h2⟩)
            have htop : K = 8 → (L.getD 0 0).toNat ≤ 127 := fun h => by
              rcases Nat.lt_or_ge 127 (t.getD 0 0).toNat with h' | h'
              · exact absurd (.inr ⟨h, h'⟩) h10
              · rw [hdg 0 (by omega)]; exact h'
            have hval := fun j (hj : j < K) => or_digit L j K hkl hj (by omega) htop
            clear hdg ht h10 hL
            replace hval := Lib.hid hval
            replace hLc := Lib.hid hLc
            replace hkl := Lib.hid hkl
            replace hlen := Lib.hid hlen
            have key : (K = 0 ∨ ∃ y : Nat, y < 256 ∧ ((y : Int) == 0) = false ∧ wc.cell? ⟨bk, off + 1, none⟩ = some (.int .u8 (y : Int)) ∧ 0 < K ∧ (((K : Int) == 8) = true ∧ y ≤ 127 ∨ ((K : Int) == 8) = false)) := by
              by_cases hz : K = 0
              · exact .inl hz
              · refine .inr ⟨(L.getD 0 0).toNat, (L.getD 0 0).toNat_lt, ?_, hLc.out 0 (by omega), by omega, ?_⟩
                · have := hfirst (by omega)
                  simp
                  intro h
                  exact this (UInt8.toNat_inj.1 (by simpa using h))
                · by_cases hk8 : K = 8
                  · exact .inl ⟨by simp; omega, htop hk8⟩
                  · exact .inr (by simp; omega)
            clear hfirst htop
            rcases key with h | ⟨y, hy2, hy1, hcy, hK0, ⟨hk8, hy7⟩ | hk8⟩
            · subst h
              go_wp2
              go_loop [7, 8] (fun x i => x = .int .i64 0 ∧ i = .int .i64 1) (fun _ _ => 0)
              case atStart => exact ⟨rfl, rfl⟩
              case round =>
                obtain ⟨rfl, rfl⟩ := hrel
                go_wp2
                go_ret3
                have : L = [] := List.eq_nil_of_length_eq_zero hkl.out
                subst this
                exact ⟨by rw [hR2.out]; rfl, hs.out⟩
            all_goals
              go_wp2
              go_loop [7, 8] (fun x i => ∃ j : Nat, j ≤ K ∧ i = .int .i64 ((j + 1 : Nat) : Int) ∧ x = .int .i64 (Num.val (L.take j))) (fun _ i => K + 1 - (intOf i).toNat)
              case atStart => exact ⟨0, Nat.zero_le _, rfl, rfl⟩
              case round =>
                obtain ⟨j, hj, rfl, rfl⟩ := hrel
                by_cases hlt : j < K
                · have hcj := hLc.out j hlt
                  rw [show off + 1 + j = off + (j + 1) from by omega] at hcj
                  obtain ⟨_, hv⟩ := hval.out j hlt
                  have hsn : (Num.val (L.take (j + 1)) : Int) = 256 * (Num.val (L.take j) : Int) + ((L.getD j 0).toNat : Int) := by
                    rw [List.take_succ_eq_append_getElem (by rw [hkl.out]; exact hlt), Num.val_snoc]
                    have e1 : L.getD j 0 = L[j]'(by rw [hkl.out]; exact hlt) := by simp [List.getD, hlt, hkl.out]
                    rw [e1]
                    omega
                  obtain ⟨z, hz⟩ : ∃ z, z = (L.getD j 0).toNat := ⟨_, rfl⟩
                  have hz2 : z < 256 := by rw [hz]; exact (L.getD j 0).toNat_lt
                  rw [← hz] at hcj hsn
                  clear hz
                  obtain ⟨x, hx2⟩ : ∃ x, x = Num.val (L.take j) := ⟨_, rfl⟩
                  rw [← hx2] at hv hsn ⊢
                  obtain ⟨i, hi⟩ : ∃ i, i = j + 1 := ⟨_, rfl⟩
                  rw [← hi] at hcj ⊢
                  have hi1 : i ≤ K := by omega
                  have hi2 : 1 ≤ i := by omega
                  replace hx2 := Lib.hid hx2
                  replace hi := Lib.hid hi
                  replace hsn := Lib.hid hsn
                  go_wp2
                  go_round
                  case rel => exact ⟨i, by omega, by go_num, by rw [hi.out, hsn.out]⟩
                  case measure => simp [intOf]; omega
                · obtain rfl : j = K := by omega
                  go_wp2
                  go_ret3
                  rw [List.take_of_length_le (by rw [hkl.out]; exact Nat.le_refl _)]
                  exact ⟨by rw [hR2.out]; rfl, hs.out⟩
/-- A number is told, the document's reader goes on. -/
def RRetNum (w : World) (rb db : Nat) (x : Nat × (List UInt8 × Nat)) (e : Ending) (w' : World) : Prop := e = .returned (.int .i64 (x.1 : Int)) ∧ RRdr w' rb db x.2 ∧ Keep (· = rb) w w'
def RRetText (w : World) (rb db : Nat) (x : List UInt8 × (List UInt8 × Nat)) (e : Ending) (w' : World) : Prop := e = .returned (.string ⟨x.1.toArray⟩) ∧ RRdr w' rb db x.2 ∧ Keep (· = rb) w w'
def RRetRaw (w : World) (rb db : Nat) (x : List UInt8 × (List UInt8 × Nat)) (e : Ending) (w' : World) : Prop := ∃ v, e = .returned v ∧ Own w' w.heap.size 5 1 v x.1.length (bv x.1) ∧ RRdr w' rb db x.2 ∧ Keep (· = rb) w w'
/-- A new reader of the document. -/
def RRetRead (w : World) (l : List UInt8) (e : Ending) (w' : World) : Prop := ∃ rb db, e = .returned (.pointer (some ⟨rb, 0, none⟩)) ∧ RRdr w' rb db (l, 0) ∧ w.heap.size ≤ rb ∧ w.heap.size ≤ db ∧ Same w w'
set_option maxRecDepth 100000 in
set_option maxHeartbeats 400000 in
theorem rread_any (ao : Option Addr) (len cap : Nat) (xs : List UInt8) (w : World) (hsl : Sl w 1 ao len cap (bv xs)) (hmax : len ≤ 140737488000000) :
    Calls Try.prog 104 #[.slice ao len cap] w (RRetRead w xs) := by
  have hown := Own.empty w 5 1
  have hsl2 := hsl.same (Same.alloc Same.refl (.cells #[] 5))
  go_enter Try.func104, Try.ntmps104
  go_wp2_with (at_builtin; refine append_sl rfl _ _ rfl byT hown rfl rfl hsl2 bv_cell (by simp) (by omega) (by omega) ?_)
  intro v' w2 ho hk2 hat
  obtain ⟨ao2, c2, rfl, hsl3⟩ := ho.sl
  go_wp2
  go_ret
  have hk0 : Keep (fun k => some w.heap.size = some k) w (w.alloc (.cells #[] 5)) := Keep.alloc _
  have hk3 : Keep (fun k => some w.heap.size = some k) (w.alloc (.cells #[] 5)) w2 := hk2
  have hs2 : Same w w2 := (hk0.trans hk3 (fun _ _ h => h)).same (fun x hx hv => by simp at hv; omega)
  have hsz := hs2.size
  refine ⟨w2.heap.size, (ao2.map (·.block)).getD w.heap.size, rfl, ⟨ao2, len, c2, xs, 0, heap_alloc_new _ _, ?_, by omega, fun _ => rfl, ?_, by simp, ?_, ?_⟩, hsz, ?_, hs2.alloc _⟩
  · exact hsl3.same (Same.alloc Same.refl _)
  · rintro b rfl
    rfl
  · rcases ao2 with _ | b
    · simp only [Option.map_none, Option.getD_none]
      have := hk2.size
      simp at this
      omega
    · have := ho.lt b.block rfl
      simp only [Option.map_some, Option.getD_some]
      omega
  · rcases ao2 with _ | b
    · simp only [Option.map_none, Option.getD_none]
      simp
      omega
    · have := ho.lt b.block rfl
      simp only [Option.map_some, Option.getD_some]
      simp
      omega
  · rcases ao2 with _ | b
    · simp
    · have := ho.base b.block rfl
      simp only [Option.map_some, Option.getD_some]
      omega
set_option maxRecDepth 100000 in
set_option maxHeartbeats 400000 in
theorem rnum_any (rb db : Nat) (s : List UInt8 × Nat) (most : Int) (w : World) (h : RRdr w rb db s) :
    Calls Try.prog 105 #[.pointer (some ⟨rb, 0, none⟩), .int .i64 most] w (RRetNum w rb db (Num.rNum s most)) := by
  have c2 := h.err
  by_cases he : s.2 ≠ 0
  · have hr : Num.rNum s most = (0, s) := by rw [Num.rNum, if_pos he]
    rw [hr]
    have h1 : ((s.2 : Int) != 0) = true := by simp; omega
    clear he hr
    go_enter Try.func105, Try.ntmps105
    go_wp2
    go_ret
    exact ⟨rfl, h, Keep.refl⟩
  · have he0 : s.2 = 0 := by simpa using he
    have hnum := rnumber_any rb db s w h he0
    have h1 : ((s.2 : Int) != 0) = false := by simp; omega
    rcases Num.numAt_cases s.1 with ⟨e, hn, hee⟩ | ⟨n, size, hn, hs0, hs9, hsl, hmax, htake⟩
    · have hr : Num.rNum s most = (0, ([], e)) := by
        rw [Num.rNum, if_neg he, hn]
        simp only
        rw [if_pos (by omega)]
      have h2 : ((e : Int) == 0) = false := by simp; omega
      have h3 : ((e : Int) != 0) = true := by simp; omega
      have he1 : e ≤ 1000 := by omega
      have he2 : 0 < e := by omega
      rw [hr]
      rw [hn] at hnum
      clear hr hn he he0 hee
      replace hnum := Lib.hid hnum
      replace h := Lib.hid h
      go_enter Try.func105, Try.ntmps105
      go_wp2_with fail
      refine hnum.out.mono ?_
      rintro e' w1 ⟨rfl, hs1⟩
      unfold num3
      have h4 := h.out.same hs1
      obtain ⟨h5, h6⟩ := h4.bad e he1 he2
      have c3 := h4.err
      obtain ⟨ao, n, c, l, k, hb, hsl, _⟩ := h4
      have f2 := blk_frozen hb 2
      clear hb hsl
      go_wp2
      go_ret
      exact ⟨rfl, h5, (Keep.of_same hs1).trans h6 (fun _ _ h => h)⟩
    · rw [hn] at hnum
      by_cases hm : most < (n : Int)
      · have hr : Num.rNum s most = (0, ([], 3)) := by
          rw [Num.rNum, if_neg he, hn]
          simp only
          rw [if_neg (by simp), if_pos hm]
        rw [hr]
        clear hr hn he he0 htake
        replace hnum := Lib.hid hnum
        replace h := Lib.hid h
        go_enter Try.func105, Try.ntmps105
        go_wp2_with fail
        refine hnum.out.mono ?_
        rintro e' w1 ⟨rfl, hs1⟩
        unfold num3
        have h4 := h.out.same hs1
        obtain ⟨h5, h6⟩ := h4.bad 3 (by omega) (by omega)
        have c3 := h4.err
        obtain ⟨ao, n', c, l, k, hb, hsl, _⟩ := h4
        have f2 := blk_frozen hb 2
        clear hb hsl
        go_wp2
        go_ret
        exact ⟨rfl, h5, (Keep.of_same hs1).trans h6 (fun _ _ h => h)⟩
      · have hr : Num.rNum s most = (n, (s.1.drop size, 0)) := by
          rw [Num.rNum, if_neg he, hn]
          simp only
          rw [if_neg (by simp), if_neg hm]
        rw [hr]
        clear hr hn he htake
        replace hnum := Lib.hid hnum
        replace h := Lib.hid h
        replace he0 := Lib.hid he0
        go_enter Try.func105, Try.ntmps105
        go_wp2_with fail
        refine hnum.out.mono ?_
        rintro e' w1 ⟨rfl, hs1⟩
        unfold num3
        obtain ⟨ao, n', c, l, k, hb, hsl2, hat, hs, hne, he', hd, hlt⟩ := h.out.same hs1
        have hl0 := hsl2.len
        rw [bv_length] at hl0
        have hcap := hsl2.cap
        have hmost := hsl2.most
        unfold maxLen at hmost
        have hsd := hs he0.out
        have hsz : k + size ≤ n' := by
          rw [hsd, List.length_drop] at hsl
          omega
        have c1 := blk_cell hb 1
        have f1 := blk_frozen hb 1
        simp at c1
        clear hs
        replace hb := Lib.hid hb
        replace hl0 := Lib.hid hl0
        replace hsl2 := Lib.hid hsl2
        replace hsd := Lib.hid hsd
        go_wp2
        go_ret
        have kp : Keep (· = rb) w1 (w1.setCell ⟨rb, 1, none⟩ (.int .i64 ((k : Int) + (size : Int)))) := Keep.setCell _ rfl
        refine ⟨rfl, ⟨ao, n', c, l, k + size, (blk_set hb.out).trans ?_, hsl2.out.keep kp (fun b hb' _ => by rw [hne b hb']; exact hd), hsz, ?_, hne, by simp, hd, by simpa [World.setCell] using hlt⟩, (Keep.of_same hs1).trans kp (fun _ _ h => h)⟩
        · rw [he0.out]; simp
        · intro _; simp only; rw [hsd.out, List.drop_drop]
set_option maxRecDepth 100000 in
set_option maxHeartbeats 400000 in
theorem rdone_any (rb db : Nat) (s : List UInt8 × Nat) (w : World) (h : RRdr w rb db s) :
    Calls Try.prog 108 #[.pointer (some ⟨rb, 0, none⟩)] w fun e w' => e = .returned (.int .i64 (Num.rDone s)) ∧ Same w w' := by
  have c2 := h.err
  unfold Num.rDone
  by_cases he : s.2 ≠ 0
  · rw [if_pos he]
    have h1 : ((s.2 : Int) != 0) = true := by simp; omega
    clear he
    go_enter Try.func108, Try.ntmps108
    go_wp2
    go_ret
    exact ⟨rfl, Same.refl⟩
  · rw [if_neg he]
    have he0 : s.2 = 0 := by simpa using he
    have h1 : ((s.2 : Int) != 0) = false := by simp; omega
    obtain ⟨ao, n', c, l, k, hb, hsl2, hat, hs, hne, he', hd, hlt⟩ := h
    have hl0 := hsl2.len
    rw [bv_length] at hl0
    have hsd : s.1.length = n' - k := by rw [hs he0, List.length_drop]; omega
    rw [hsd]
    have c0 := blk_cell hb 0
    have c1 := blk_cell hb 1
    simp at c0 c1
    clear hs he he0 hb
    replace hl0 := Lib.hid hl0
    replace hsd := Lib.hid hsd
    by_cases hlt : k < n'
    · rw [if_pos (by omega)]
      go_enter Try.func108, Try.ntmps108
      go_upto_region 3 with fail
      go_quiet (fail)
      go_wp2
      go_ret
      exact ⟨rfl, Same.refl.drewN _⟩
    · rw [if_neg (by omega)]
      go_enter Try.func108, Try.ntmps108
      go_upto_region 3 with fail
      go_quiet (fail)
      go_wp2
      go_ret
      exact ⟨rfl, Same.refl.drewN _⟩
set_option maxRecDepth 100000 in
set_option maxHeartbeats 800000 in
theorem rraw_any (rb db : Nat) (s : List UInt8 × Nat) (n : Int) (w : World) (h : RRdr w rb db s) (hl2 : s.1.length ≤ 140737488000000) :
    Calls Try.prog 106 #[.pointer (some ⟨rb, 0, none⟩), .int .i64 n] w (RRetRaw w rb db (Num.rRaw s n)) := by
  have c2 := h.err
  by_cases he : s.2 ≠ 0
  · have hr : Num.rRaw s n = ([], s) := by rw [Num.rRaw, if_pos he]
    rw [hr]
    have h1 : ((s.2 : Int) != 0) = true := by simp; omega
    clear he hr
    go_enter Try.func106, Try.ntmps106
    go_wp2
    go_ret
    exact ⟨_, rfl, World.ownsRow_nil _ _ _ _, h, Keep.refl⟩
  · have he0 : s.2 = 0 := by simpa using he
    have h1 : ((s.2 : Int) != 0) = false := by simp; omega
    by_cases hn : n < 0
    · have hr : Num.rRaw s n = ([], ([], 2)) := by rw [Num.rRaw, if_neg he, if_pos hn]
      rw [hr]
      clear hr he
      obtain ⟨h5, h6⟩ := h.bad 2 (by omega) (by omega)
      obtain ⟨ao, n', c, l, k, hb, hsl, _⟩ := h
      have f2 := blk_frozen hb 2
      clear hb hsl he0
      go_enter Try.func106, Try.ntmps106
      go_wp2
      go_ret
      exact ⟨_, rfl, World.ownsRow_nil _ _ _ _, h5, h6⟩
    · by_cases hc : (s.1.length : Int) < n
      · have hr : Num.rRaw s n = ([], ([], 10)) := by rw [Num.rRaw, if_neg he, if_neg hn, if_pos hc]
        rw [hr]
        clear hr he
        replace h := Lib.hid h
        go_enter Try.func106, Try.ntmps106
        go_upto_region 6 with fail
        go_cut [26] (fun v wx => v = .bool true ∧ Same w wx)
        case first =>
          obtain ⟨ao, n', c, l, k, hb, hsl2, hat, hs, hne, he', hd, hlt⟩ := h.out
          have hl0 := hsl2.len
          rw [bv_length] at hl0
          have hcap := hsl2.cap
          have hmost := hsl2.most
          unfold maxLen at hmost
          have hsd := hs he0
          rw [hsd, List.length_drop] at hc
          have hc2 : (n' : Int) - (k : Int) < n := by omega
          have c0 := blk_cell hb 0
          have c1 := blk_cell hb 1
          simp at c0 c1
          clear hs hb hsd he0 hc h hsl2
          replace hl0 := Lib.hid hl0
          go_quiet (fail)
          go_wp2
          go_meet
          exact ⟨by first | rfl | rw [decide_eq_true (by omega)], Same.refl.drewN _⟩
        case rest =>
          obtain ⟨rfl, hs2⟩ := hcut
          have h4 := h.out.same hs2
          obtain ⟨h5, h6⟩ := h4.bad 10 (by omega) (by omega)
          have c3 := h4.err
          obtain ⟨ao, n', c, l, k, hb, hsl, _⟩ := h4
          have f2 := blk_frozen hb 2
          clear hb hsl he0
          go_wp2
          go_ret
          exact ⟨_, rfl, World.ownsRow_nil _ _ _ _, h5, (Keep.of_same hs2).trans h6 (fun _ _ h => h)⟩
      · obtain ⟨m, rfl⟩ : ∃ m : Nat, n = (m : Int) := ⟨n.toNat, by omega⟩
        have hr : Num.rRaw s m = (s.1.take m, (s.1.drop m, 0)) := by rw [Num.rRaw, if_neg he, if_neg hn, if_neg hc]; rfl
        rw [hr]
        clear hr he
        replace h := Lib.hid h
        replace he0 := Lib.hid he0
        go_enter Try.func106, Try.ntmps106
        go_upto_region 6 with fail
        go_cut [26] (fun v wx => v = .bool false ∧ Same w wx)
        case first =>
          obtain ⟨ao, n', c, l, k, hb, hsl2, hat, hs, hne, he', hd, hlt⟩ := h.out
          have hl0 := hsl2.len
          rw [bv_length] at hl0
          have hcap := hsl2.cap
          have hmost := hsl2.most
          unfold maxLen at hmost
          have hsd := hs he0.out
          rw [hsd, List.length_drop] at hc
          have hc2 : (m : Int) ≤ (n' : Int) - (k : Int) := by omega
          have c0 := blk_cell hb 0
          have c1 := blk_cell hb 1
          simp at c0 c1
          clear hs hb hsd he0 hc h hsl2
          replace hl0 := Lib.hid hl0
          go_quiet (fail)
          go_wp2
          go_meet
          exact ⟨by first | rfl | rw [decide_eq_false (by omega)], Same.refl.drewN _⟩
        case rest =>
          obtain ⟨rfl, hs2⟩ := hcut
          obtain ⟨ao, n', c, l, k, hb, hsl2, hat, hs, hne, he', hd, hlt⟩ := h.out.same hs2
          have hl0 := hsl2.len
          rw [bv_length] at hl0
          have hcap := hsl2.cap
          have hmost := hsl2.most
          unfold maxLen at hmost
          have hsd := hs he0.out
          have hmn : m ≤ s.1.length := by omega
          have hm3 : m ≤ 140737488000000 := by omega
          have hc2 : k + m ≤ n' := by
            rw [hsd, List.length_drop] at hc
            omega
          have c1 := blk_cell hb 1
          have f1 := blk_frozen hb 1
          simp at c1
          have kp : Keep (· = rb) wc (wc.setCell ⟨rb, 1, none⟩ (.int .i64 ((k : Int) + (m : Int)))) := Keep.setCell _ rfl
          have hb2 := (blk_set hb (i := 1) (v := (.int .i64 ((k : Int) + (m : Int))))).trans (rfl : _ = some (Obj.cells #[.slice ao n' c, .int .i64 ((k : Int) + (m : Int)), .int .i64 (s.2 : Int)] 180 (0, 0)))
          have hsl3 := hsl2.keep kp (fun b hb' _ => by rw [hne b hb']; exact hd)
          have hz : (wc.setCell ⟨rb, 1, none⟩ (.int .i64 ((k : Int) + (m : Int)))).heap.size = wc.heap.size := by simp [World.setCell]
          obtain ⟨w4, hw4⟩ : ∃ w4, w4 = wc.setCell ⟨rb, 1, none⟩ (.int .i64 ((k : Int) + (m : Int))) := ⟨_, rfl⟩
          rw [← hw4] at kp hb2 hsl3 hz
          have d0 := blk_cell hb2 0
          have d1 := blk_cell hb2 1
          simp at d0 d1
          have hcut : (bv l).drop (k * 1) = bv s.1 := by rw [Nat.mul_one, bv_drop, hsd]
          have htk : (bv s.1).take (m * 1) = bv (s.1.take m) := by rw [Nat.mul_one, bv_take]
          have hdd : s.1.drop m = l.drop (k + m) := by rw [hsd, List.drop_drop]
          have hTl : (s.1.take m).length = m := by rw [List.length_take]; omega
          have hz2 := hs2.size
          obtain ⟨T, hT⟩ : ∃ T, T = s.1.take m := ⟨_, rfl⟩
          rw [← hT] at htk hTl
          clear hs h hsl2 hc hb hsd
          replace hl0 := Lib.hid hl0
          replace hb2 := Lib.hid hb2
          replace hsl3 := Lib.hid hsl3
          replace hcut := Lib.hid hcut
          replace htk := Lib.hid htk
          replace hz := Lib.hid hz
          replace d0 := Lib.hid d0
          replace d1 := Lib.hid d1
          replace hdd := Lib.hid hdd
          replace hT := Lib.hid hT
          replace hTl := Lib.hid hTl
          go_upto_region 10 with fail
          rw [← hw4]
          clear hw4 c1 f1
          refine wp_region_tails (by kernel_rfl) [(39, 0), (40, 1), (41, 2), (42, 3), (43, 4), (44, 5), (45, 6), (46, 7), (47, 8), (48, 9), (49, 10), (50, 11), (51, 12), (52, 13), (53, 14), (54, 15)] Same (Same _) [isOwn w4.heap.size 0 [], isV (.pointer (some ⟨rb, 0, none⟩)), isV (.pointer (some ⟨rb, 0, none⟩)), isV (.pointer (some ⟨rb, 0, none⟩)), isV (.slice ao n' c), isV (.pointer (some ⟨rb, 0, none⟩)), isV (.pointer (some ⟨rb, 0, none⟩)), isV (.pointer (some ⟨rb, 1, none⟩)), isV (.int .i64 ((k : Int) + (m : Int))), isV (.int .i64 (m : Int)), isV (.int .i64 (k : Int)), isV (.pointer (some ⟨rb, 0, none⟩)), isV (.pointer (some ⟨rb, 0, none⟩)), isV (.pointer (some ⟨rb, 1, none⟩)), isV (.int .i64 ((k : Int) + (m : Int))), isBn m T] Same.refl.drew (fun _ _ h k => h.trans k) (by simp [isV_stable, isB_stable, isAny_stable, isBn_stable, isOwn_stable]) (by decide) (l := [_, _, _, _, _, _, _, _, _, _, _, _, _, _, _, _]) rfl (by decide) (by kernel_rfl) ?_ ?_
          · refine ⟨?_, ?_, ?_, ?_, ?_, ?_, ?_, ?_, ?_, ?_, ?_, ?_, ?_, ?_, ?_, ?_, trivial⟩
            all_goals (intro u wx hI hp; simp only [mkAct, List.foldl_cons, List.foldl_nil, List.setIfInBounds_toArray, List.set_cons_succ, List.set_cons_zero])
            · -- operation 0
              go_wp2
              refine stq_x (.slice (some ⟨wx.heap.size, 0, none⟩) 0 0) rfl ((Own.empty wx 5 1).lower hI.size) (Same.refl.alloc _) ?_
              first | (simp only [mkAct, List.foldl_cons, List.foldl_nil, List.setIfInBounds_toArray, List.set_cons_succ, List.set_cons_zero, upd, reduceIte, Nat.reduceEqDiff, Nat.reduceAdd, str]; done) | (simp [mkAct, upd, str, *]; done)
            · -- operation 1
              go_wp2
              refine stq_v rfl Same.refl ?_
              first | (simp only [mkAct, List.foldl_cons, List.foldl_nil, List.setIfInBounds_toArray, List.set_cons_succ, List.set_cons_zero, upd, reduceIte, Nat.reduceEqDiff, Nat.reduceAdd, str]; done) | (simp [mkAct, upd, str, *]; done)
            · -- operation 2
              obtain ⟨f1, -⟩ := hp
              replace f1 : u 1 = (.pointer (some ⟨rb, 0, none⟩)) := f1
              try simp only [f1, str]
              go_wp2
              refine stq_v rfl Same.refl ?_
              first | (simp only [mkAct, List.foldl_cons, List.foldl_nil, List.setIfInBounds_toArray, List.set_cons_succ, List.set_cons_zero, upd, reduceIte, Nat.reduceEqDiff, Nat.reduceAdd, f1, str]; done) | (simp [mkAct, upd, f1, str, *]; done)
            · -- operation 3
              obtain ⟨f2, -⟩ := hp
              replace f2 : u 2 = (.pointer (some ⟨rb, 0, none⟩)) := f2
              try simp only [f2, str]
              go_wp2
              refine stq_v rfl Same.refl ?_
              first | (simp only [mkAct, List.foldl_cons, List.foldl_nil, List.setIfInBounds_toArray, List.set_cons_succ, List.set_cons_zero, upd, reduceIte, Nat.reduceEqDiff, Nat.reduceAdd, f2, str]; done) | (simp [mkAct, upd, f2, str, *]; done)
            · -- operation 4
              obtain ⟨f3, -⟩ := hp
              replace f3 : u 3 = (.pointer (some ⟨rb, 0, none⟩)) := f3
              try simp only [f3, str]
              have cx := hI.cell (d0.out)
              go_wp2
              refine stq_v rfl Same.refl ?_
              first | (simp only [mkAct, List.foldl_cons, List.foldl_nil, List.setIfInBounds_toArray, List.set_cons_succ, List.set_cons_zero, upd, reduceIte, Nat.reduceEqDiff, Nat.reduceAdd, f3, str]; done) | (simp [mkAct, upd, f3, str, *]; done)
            · -- operation 5
              go_wp2
              refine stq_v rfl Same.refl ?_
              first | (simp only [mkAct, List.foldl_cons, List.foldl_nil, List.setIfInBounds_toArray, List.set_cons_succ, List.set_cons_zero, upd, reduceIte, Nat.reduceEqDiff, Nat.reduceAdd, str]; done) | (simp [mkAct, upd, str, *]; done)
            · -- operation 6
              obtain ⟨f5, -⟩ := hp
              replace f5 : u 5 = (.pointer (some ⟨rb, 0, none⟩)) := f5
              try simp only [f5, str]
              go_wp2
              refine stq_v rfl Same.refl ?_
              first | (simp only [mkAct, List.foldl_cons, List.foldl_nil, List.setIfInBounds_toArray, List.set_cons_succ, List.set_cons_zero, upd, reduceIte, Nat.reduceEqDiff, Nat.reduceAdd, f5, str]; done) | (simp [mkAct, upd, f5, str, *]; done)
            · -- operation 7
              obtain ⟨f6, -⟩ := hp
              replace f6 : u 6 = (.pointer (some ⟨rb, 0, none⟩)) := f6
              try simp only [f6, str]
              go_wp2
              refine stq_v rfl Same.refl ?_
              first | (simp only [mkAct, List.foldl_cons, List.foldl_nil, List.setIfInBounds_toArray, List.set_cons_succ, List.set_cons_zero, upd, reduceIte, Nat.reduceEqDiff, Nat.reduceAdd, f6, str]; done) | (simp [mkAct, upd, f6, str, *]; done)
            · -- operation 8
              obtain ⟨f7, -⟩ := hp
              replace f7 : u 7 = (.pointer (some ⟨rb, 1, none⟩)) := f7
              try simp only [f7, str]
              have cx := hI.cell (d1.out)
              go_wp2
              refine stq_v rfl Same.refl ?_
              first | (simp only [mkAct, List.foldl_cons, List.foldl_nil, List.setIfInBounds_toArray, List.set_cons_succ, List.set_cons_zero, upd, reduceIte, Nat.reduceEqDiff, Nat.reduceAdd, f7, str]; done) | (simp [mkAct, upd, f7, str, *]; done)
            · -- operation 9
              go_wp2
              refine stq_v rfl Same.refl ?_
              first | (simp only [mkAct, List.foldl_cons, List.foldl_nil, List.setIfInBounds_toArray, List.set_cons_succ, List.set_cons_zero, upd, reduceIte, Nat.reduceEqDiff, Nat.reduceAdd, str]; done) | (simp [mkAct, upd, str, *]; done)
            · -- operation 10
              obtain ⟨f8, f9, -⟩ := hp
              replace f8 : u 8 = (.int .i64 ((k : Int) + (m : Int))) := f8
              replace f9 : u 9 = (.int .i64 (m : Int)) := f9
              try simp only [f8, f9, str]
              go_wp2
              refine stq_v rfl Same.refl ?_
              first | (simp only [mkAct, List.foldl_cons, List.foldl_nil, List.setIfInBounds_toArray, List.set_cons_succ, List.set_cons_zero, upd, reduceIte, Nat.reduceEqDiff, Nat.reduceAdd, f8, f9, str]; done) | (simp [mkAct, upd, f8, f9, str, *]; done)
            · -- operation 11
              go_wp2
              refine stq_v rfl Same.refl ?_
              first | (simp only [mkAct, List.foldl_cons, List.foldl_nil, List.setIfInBounds_toArray, List.set_cons_succ, List.set_cons_zero, upd, reduceIte, Nat.reduceEqDiff, Nat.reduceAdd, str]; done) | (simp [mkAct, upd, str, *]; done)
            · -- operation 12
              obtain ⟨f11, -⟩ := hp
              replace f11 : u 11 = (.pointer (some ⟨rb, 0, none⟩)) := f11
              try simp only [f11, str]
              go_wp2
              refine stq_v rfl Same.refl ?_
              first | (simp only [mkAct, List.foldl_cons, List.foldl_nil, List.setIfInBounds_toArray, List.set_cons_succ, List.set_cons_zero, upd, reduceIte, Nat.reduceEqDiff, Nat.reduceAdd, f11, str]; done) | (simp [mkAct, upd, f11, str, *]; done)
            · -- operation 13
              obtain ⟨f12, -⟩ := hp
              replace f12 : u 12 = (.pointer (some ⟨rb, 0, none⟩)) := f12
              try simp only [f12, str]
              go_wp2
              refine stq_v rfl Same.refl ?_
              first | (simp only [mkAct, List.foldl_cons, List.foldl_nil, List.setIfInBounds_toArray, List.set_cons_succ, List.set_cons_zero, upd, reduceIte, Nat.reduceEqDiff, Nat.reduceAdd, f12, str]; done) | (simp [mkAct, upd, f12, str, *]; done)
            · -- operation 14
              obtain ⟨f13, -⟩ := hp
              replace f13 : u 13 = (.pointer (some ⟨rb, 1, none⟩)) := f13
              try simp only [f13, str]
              have cx := hI.cell (d1.out)
              go_wp2
              refine stq_v rfl Same.refl ?_
              first | (simp only [mkAct, List.foldl_cons, List.foldl_nil, List.setIfInBounds_toArray, List.set_cons_succ, List.set_cons_zero, upd, reduceIte, Nat.reduceEqDiff, Nat.reduceAdd, f13, str]; done) | (simp [mkAct, upd, f13, str, *]; done)
            · -- operation 15
              obtain ⟨f4, f10, f14, -⟩ := hp
              replace f4 : u 4 = (.slice ao n' c) := f4
              replace f10 : u 10 = (.int .i64 (k : Int)) := f10
              replace f14 : u 14 = (.int .i64 ((k : Int) + (m : Int))) := f14
              try simp only [f4, f10, f14, str]
              go_wp2_with (refine slice_mid rfl _ _ _ rfl byT rfl .i64 .i64 _ _ k m rfl rfl rfl (by omega) (by omega) (hsl3.out.same hI) ?_; intro ao' hsl'; rw [hcut.out, htk.out] at hsl')
              refine stq_x (.slice ao' m (c - k)) rfl ⟨ao', _, rfl, hsl'⟩ Same.refl ?_
              first | (simp only [mkAct, List.foldl_cons, List.foldl_nil, List.setIfInBounds_toArray, List.set_cons_succ, List.set_cons_zero, upd, reduceIte, Nat.reduceEqDiff, Nat.reduceAdd, f4, f10, f14, str]; done) | (simp [mkAct, upd, f4, f10, f14, str, *]; done)
          · intro u wx hI hR
            obtain ⟨r0, r1, r2, r3, r4, r5, r6, r7, r8, r9, r10, r11, r12, r13, r14, r15, -⟩ := hR
            replace r1 : u 1 = (.pointer (some ⟨rb, 0, none⟩)) := r1
            replace r2 : u 2 = (.pointer (some ⟨rb, 0, none⟩)) := r2
            replace r3 : u 3 = (.pointer (some ⟨rb, 0, none⟩)) := r3
            replace r4 : u 4 = (.slice ao n' c) := r4
            replace r5 : u 5 = (.pointer (some ⟨rb, 0, none⟩)) := r5
            replace r6 : u 6 = (.pointer (some ⟨rb, 0, none⟩)) := r6
            replace r7 : u 7 = (.pointer (some ⟨rb, 1, none⟩)) := r7
            replace r8 : u 8 = (.int .i64 ((k : Int) + (m : Int))) := r8
            replace r9 : u 9 = (.int .i64 (m : Int)) := r9
            replace r10 : u 10 = (.int .i64 (k : Int)) := r10
            replace r11 : u 11 = (.pointer (some ⟨rb, 0, none⟩)) := r11
            replace r12 : u 12 = (.pointer (some ⟨rb, 0, none⟩)) := r12
            replace r13 : u 13 = (.pointer (some ⟨rb, 1, none⟩)) := r13
            replace r14 : u 14 = (.int .i64 ((k : Int) + (m : Int))) := r14
            obtain ⟨ao15, c15, r15, hsl15⟩ := r15
            simp only [mkAct, List.foldl_cons, List.foldl_nil, List.setIfInBounds_toArray, List.set_cons_succ, List.set_cons_zero]
            try simp only [str, r1, r2, r3, r4, r5, r6, r7, r8, r9, r10, r11, r12, r13, r14, r15]
            replace r0 : Own wx w4.heap.size 5 1 (u 0) 0 [] := r0
            obtain ⟨v0, hv0⟩ : ∃ v, v = u 0 := ⟨_, rfl⟩
            rw [← hv0] at r0
            simp only [← hv0]
            clear hv0 r15
            replace r0 := Lib.hid r0
            replace hsl15 := Lib.hid hsl15
            go_wp2_with (at_builtin; refine append_sl rfl _ _ rfl byT r0.out rfl rfl hsl15.out bv_cell hI.size (by omega) (by omega) ?_; intro v8 w8 ho8 hk8 hz8; clear hz8; rw [Nat.zero_add, List.nil_append] at ho8)
            go_ret
            have hs8 : Same w4 w8 := hI.keep hk8 (fun x hx hv => by have := r0.out.base x hv; omega)
            refine ⟨_, rfl, ?_, ⟨ao, n', c, l, k + m, (hs8.block _ (blk_lt hb2.out)).trans (hb2.out.trans (by rw [he0.out]; simp)), hsl3.out.same hs8, by omega, fun _ => hdd.out, hne, by simp, hd, by have := hs8.size; have := hz.out; omega⟩, ((Keep.of_same hs2).trans kp (fun _ _ h => h)).trans (Keep.of_same (p := fun _ => False) hs8) (fun _ _ h => h.elim)⟩
            rw [← hT.out, hTl.out]
            exact ho8.lower (by have := hz.out; omega)
end Go.Proofs.Ytmacgmmjgdmleaa
