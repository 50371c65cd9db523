/-
  The walk of the law BatchReads: any batch has the bytes and the digest that the document says; any bytes are read as it says.
-/
-- @law bytes, rep bat
import Derived.Test.YthgpmgodpedjdaaBatH
import Derived.Deep.DeepCutAuto
namespace Go.Proofs.Ythgpmgodpedjdaa
open Go Go.RowKit
set_option linter.unusedSimpArgs false
set_option linter.unusedVariables false

theorem rNum_err (s : List UInt8 × Nat) (m : Int) (h : (Num.rNum s m).2.2 ≠ 0) : (Num.rNum s m).1 = 0 := by
  revert h
  unfold Num.rNum
  split
  · intro _; rfl
  · split
    split
    · intro _; rfl
    · split
      · intro _; rfl
      · intro h
        exact absurd rfl h
def RRetBat (w : World) (rb db : Nat) (x : (Bool × List Req) × (List UInt8 × Nat)) (e : Ending) (w' : World) : Prop :=
  ∃ ao c, e = .returned (.agg #[.bool x.1.1, .slice ao x.1.2.length c]) ∧ Sl w' 19 ao x.1.2.length c (rv x.1.2) ∧ RRdr w' rb db x.2 ∧ Keep (· = rb) w w' ∧ ∀ a, ao = some a → w.heap.size ≤ a.block
def isRGot (rb db : Nat) (r : Req) (s : List UInt8 × Nat) : Value → World → Prop := fun v w => v = .agg r.cells.toArray ∧ RRdr w rb db s
theorem isRGot_stable (rb db : Nat) (r : Req) (s : List UInt8 × Nat) : Stable Same (isRGot rb db r s) := fun _ _ _ k ⟨h, h1⟩ => ⟨h, h1.same k⟩
set_option maxRecDepth 100000 in
set_option maxHeartbeats 3200000 in
theorem rbget_any (rb db : Nat) (s : List UInt8 × Nat) (w : World) (h : RRdr w rb db s) (hl : s.1.length ≤ 100000000) :
    Calls Try.prog 46 #[.pointer (some ⟨rb, 0, none⟩)] w (RRetBat w rb db (batGet s)) := by
  have hq := fun w h => rnum_any rb db s 5 w h
  have k1 := rNum_le' s 5
  have k5 := rNum_most s 5 (by omega)
  have ke := rNum_err s 5
  unfold batGet
  obtain ⟨A, hA⟩ : ∃ A, A = Num.rNum s 5 := ⟨_, rfl⟩
  rw [← hA] at hq k1 k5 ke ⊢
  obtain ⟨n, sa⟩ := A
  simp only at hq k1 k5 ke ⊢
  unfold RRetNum at hq
  simp only at hq
  have hget := fun k w h => rqrget_any rb db (reqGets k sa).2 w h (by have := reqGets_le sa k; omega)
  have hlen := reqGets_length sa
  obtain ⟨l1, l2, l3⟩ := h.lt
  obtain ⟨b2, hb2⟩ : ∃ b, b = w.heap.size := ⟨_, rfl⟩
  have n1 : b2 ≠ rb := by omega
  have n3 : ¬ rb = b2 := by omega
  have n4 : ¬ db = b2 := by omega
  obtain ⟨G, hG⟩ : ∃ G : Nat → List Req × (List UInt8 × Nat), G = fun k => reqGets k sa := ⟨_, rfl⟩
  have hGs : ∀ k, G (k + 1) = ((G k).1 ++ [(reqGet (G k).2).1], (reqGet (G k).2).2) := by
    intro k
    rw [hG]
    rfl
  have hG0 : G 0 = ([], sa) := by rw [hG]; rfl
  have hGl : ∀ k, (G k).1.length = k := by rw [hG]; exact hlen
  have hget : ∀ k w, RRdr w rb db (G k).2 → Calls Try.prog 93 #[.pointer (some ⟨rb, 0, none⟩)] w (RRetGet w rb db (reqGet (G k).2)) := by
    rw [hG]
    exact hget
  rw [show reqGets (n - 1) sa = G (n - 1) from by rw [hG]]
  have hgt : ∀ k, (reqGet (G k).2).1.tag.length = 16 := fun k => reqGet_tag _
  unfold RRetGet at hget
  obtain ⟨R, hR⟩ : ∃ R, R = ((if (G (n - 1)).2.2 ≠ 0 then (false, []) else (decide (n = 0), (G (n - 1)).1), (G (n - 1)).2) : (Bool × List Req) × (List UInt8 × Nat)) := ⟨_, rfl⟩
  rw [← hR]
  have hR2 : R.2 = (G (n - 1)).2 := by rw [hR]
  have hinfZ := Lib.hid (bat_cells false (.slice none 0 0))
  clear hG hlen hA hl k1
  replace hR := Lib.hid hR
  replace hR2 := Lib.hid hR2
  replace h := Lib.hid h
  replace hq := Lib.hid hq
  replace hget := Lib.hid hget
  replace hGs := Lib.hid hGs
  replace hG0 := Lib.hid hG0
  replace hGl := Lib.hid hGl
  replace hgt := Lib.hid hgt
  replace hb2 := Lib.hid hb2
  replace ke := Lib.hid ke
  go_enter Try.func46, Try.ntmps46
  go_upto_region 1 with (refine alloc_new rfl 24 rfl #[.bool false, .slice none 0 0] (by kernel_rfl) ?_; intro w1 hd hs1)
  rw [← hb2.out] at hd ⊢
  have hr1 := Lib.hid (h.out.same hs1)
  have hk1 := Lib.hid (Keep.of_same (p := (· = rb)) hs1)
  have hb1l := blk_lt hd
  replace hd := Lib.hid hd
  clear hs1 h
  go_wp2_with fail
  refine (hq.out _ hr1.out).mono ?_
  rintro e w2 ⟨rfl, hr2, hk2⟩
  have hd0 := Lib.hid ((hk2.block _ hb1l n1).trans hd.out)
  have hk02 := Lib.hid (hk1.out.trans hk2 (fun _ _ h => h))
  have cE := hr2.err
  clear hk2 hr1 hk1 hd hb1l
  replace hr2 := Lib.hid hr2
  by_cases hE1 : sa.2 = 0
  · have hz : ((sa.2 : Int) != 0) = false := by simp [hE1]
    by_cases hn0 : n = 0
    · subst hn0
      have hE := hR.out
      rw [Nat.zero_sub, hG0.out] at hE
      simp only [ne_eq, hE1, not_true, if_false, decide_true] at hE
      clear hE1 hR hGs hGl hgt hget
      replace hE := Lib.hid hE
      replace hinfZ := Lib.hid (bat_cells true (.slice none 0 0))
      go_wp2_with (first | (refine build_const (ty := 24) (.agg #[.bool true, .slice none 0 0]) rfl rfl (by kernel_rfl) ?_) | (refine store_row rfl _ _ _ rfl b2 #[.bool true, .slice none 0 0] rfl rfl _ _ hd0.out hinfZ.out rfl (by simp [Value.oneCell']) ?_; intro w10 hb10 hk10; replace hb10 := Lib.hid hb10; replace hk10 := Lib.hid hk10))
      refine bodyPost_ret (v := .agg #[.bool true, .slice none 0 0]) (results_row (p := 2) (ty := 24) rfl _ _ b2 _ _ _ _ rfl hb10.out Try.underlying24 rfl hinfZ.out) rfl ?_
      exact ⟨none, 0, by rw [hE.out]; rfl, by rw [hE.out]; exact Sl.none _ 19, by rw [hE.out]; exact hr2.out.keep hk10.out n3 n4, hk02.out.trans hk10.out (fun x hx hv => by have := hb2.out; omega), fun a ha => by cases ha⟩
    · have hn1 : ((n : Int) == 0) = false := by simp [hn0]
      go_upto_region 7 with (refine alloc_new rfl 24 rfl #[.bool false, .slice none 0 0] (by kernel_rfl) ?_; intro w3 hdq hs3)
      obtain ⟨b4, hb4'⟩ : ∃ b, b = w2.heap.size := ⟨_, rfl⟩
      have z02 := hk02.out.size
      have zb2 := blk_lt hd0.out
      have m0 : ¬ b2 = b4 := by omega
      have m1 : b4 ≠ rb := by have := hr2.out.lt; omega
      have m3 : ¬ rb = b4 := by omega
      have m4 : ¬ db = b4 := by have := hr2.out.lt; omega
      have hb4 : w.heap.size ≤ b4 := by omega
      rw [← hb4'] at hdq ⊢
      have hd0 := Lib.hid (hs3.at hd0.out)
      have hr3 := Lib.hid (hr2.out.same hs3)
      have hk03 := Lib.hid (hk02.out.trans (Keep.of_same (p := fun _ => False) hs3) (fun _ _ h => h.elim))
      clear hs3 hr2 hk02 hb4' z02 zb2 cE hz hn1
      replace hb4 := Lib.hid hb4
      replace hdq := Lib.hid hdq
      go_wp2
      go_loopw [5] (fun i wr => ∃ (k : Nat) (v : Value), k ≤ n - 1 ∧ i = .int .i64 (k + 1 : Nat) ∧ wr.heap[b4]? = some (.cells #[.bool false, v] 24 (0, 0)) ∧ wr.heap[b2]? = some (.cells #[.bool false, .slice none 0 0] 24 (0, 0)) ∧ Own wr w.heap.size 44 19 v k (rv (G k).1) ∧ RRdr wr rb db (G k).2 ∧ Keep (· = rb) w wr) (fun i _ => n - (intOf i).toNat)
      case atStart => exact ⟨0, _, by omega, rfl, hdq.out, hd0.out, by rw [hG0.out]; exact Own.nil _ _ _ _, by rw [hG0.out]; exact hr3.out, hk03.out⟩
      case round =>
        obtain ⟨k, v, hk, rfl, hdk, hdz, hov, hrk, hkk⟩ := hrel
        by_cases hlt : k + 1 < n
        · have hgk := fun w h => hget.out k w h
          have hGk := hGs.out k
          have hT := hgt.out k
          have hll := hGl.out k
          obtain ⟨X, hX⟩ : ∃ X, X = reqGet (G k).2 := ⟨_, rfl⟩
          simp only [← hX] at hgk hGk hT
          obtain ⟨q, sx⟩ := X
          simp only at hgk hGk hT
          have hcl := Req.cells_length hT
          have hfold := fold_set' q.cells
          have hvn := own_ne' hov hdk (by decide)
          have hvn2 := own_ne' hov hdz (by decide)
          have hvbase := hov.base
          have u1 : ((k + 1 : Nat) : Int) < (n : Int) := by omega
          have c1 : wr.cell? ⟨b4, 1, none⟩ = some v := by rw [blk_cell hdk]; rfl
          clear hX hd0 hr3 hk03 hdq
          replace hgk := Lib.hid hgk
          replace hGk := Lib.hid hGk
          replace hT := Lib.hid hT
          replace hll := Lib.hid hll
          replace hcl := Lib.hid hcl
          replace hfold := Lib.hid hfold
          replace hvn := Lib.hid hvn
          replace hvn2 := Lib.hid hvn2
          replace hvbase := Lib.hid hvbase
          replace hdk := Lib.hid hdk
          replace hdz := Lib.hid hdz
          replace hov := Lib.hid hov
          replace hrk := Lib.hid hrk
          replace hkk := Lib.hid hkk
          replace c1 := Lib.hid c1
          go_upto_region 10 with fail
          refine wp_region_mut (by kernel_rfl) [(22, 0), (23, 1), (24, 2), (25, 3), (26, 4)] [(3, (Keep (fun x => x = rb)))] [(3, [3]), (4, [3]), (1000, [3])] [0, 1, 2, 3, 4] [[], [0], [], [2, 1000], [3]] Same (Keep (fun x => x = rb) wr) [(fun w => RRdr w rb db (G k).2)] [isV (.pointer (some ⟨b4, 1, none⟩)), isV v, isV (.pointer (some ⟨rb, 0, none⟩)), isRGot rb db q sx, isOne wr.heap.size q.cells 44] (Keep.drew) (by intro g hg; simp only [List.mem_cons, List.not_mem_nil, or_false] at hg; obtain rfl := hg; exact (hrk.out.same Same.refl.drew)) (fun _ _ h k => h.trans (Keep.of_same (p := fun _ => False) k) (fun _ _ h => h.elim)) (by intro g hg; simp only [List.mem_cons, List.not_mem_nil, or_false] at hg; obtain rfl := hg; exact (fun _ _ h k => h.trans k (fun x _ hx => hx))) (by simp [isV_stable, isB_stable, isAny_stable, isRGot_stable, isOne_stable]) (by intro g hg; simp only [List.mem_cons, List.not_mem_nil, or_false] at hg; obtain rfl := hg; exact (fun _ _ k h => h.same k)) (by simp [killsOf, List.zipIdx_cons, isV_stable, isAny_stable]) (by simp [killsOf, List.zipIdx_cons]) (by decide) (l := [_, _, _, _, _]) rfl (by decide) (by kernel_rfl) (by kernel_rfl) (by kernel_rfl) (by decide) ?_ ?_
          · refine ⟨?_, ?_, ?_, ?_, ?_, trivial⟩
            all_goals (intro u wx hI hp; simp only [mkAct, List.foldl_cons, List.foldl_nil, List.setIfInBounds_toArray, List.set_cons_succ, List.set_cons_zero])
            · -- operation 0
              go_wp2
              refine stg_v (x := (.pointer (some ⟨b4, 1, none⟩))) rfl Same.refl ?_
              first | (simp only [mkAct, List.foldl_cons, List.foldl_nil, List.setIfInBounds_toArray, List.set_cons_succ, List.set_cons_zero, upd, reduceIte, Nat.reduceEqDiff, Nat.reduceAdd, str]; done) | (simp [mkAct, upd, str, *]; done)
            · -- operation 1
              obtain ⟨f0, -⟩ := hp
              replace f0 : u 0 = (.pointer (some ⟨b4, 1, none⟩)) := f0
              try simp only [f0, str]
              have c2 := hI.cell c1.out m1
              go_wp2
              refine stg_v (x := v) rfl Same.refl ?_
              first | (simp only [mkAct, List.foldl_cons, List.foldl_nil, List.setIfInBounds_toArray, List.set_cons_succ, List.set_cons_zero, upd, reduceIte, Nat.reduceEqDiff, Nat.reduceAdd, f0, str]; done) | (simp [mkAct, upd, f0, str, *]; done)
            · -- operation 2
              go_wp2
              refine stg_v (x := (.pointer (some ⟨rb, 0, none⟩))) rfl Same.refl ?_
              first | (simp only [mkAct, List.foldl_cons, List.foldl_nil, List.setIfInBounds_toArray, List.set_cons_succ, List.set_cons_zero, upd, reduceIte, Nat.reduceEqDiff, Nat.reduceAdd, str]; done) | (simp [mkAct, upd, str, *]; done)
            · -- operation 3
              obtain ⟨f2, fG0, -⟩ := hp
              replace f2 : u 2 = (.pointer (some ⟨rb, 0, none⟩)) := f2
              try simp only [f2, str]
              have fG := Lib.hid fG0
              go_wp2_with fail
              refine (hgk.out _ fG.out).mono ?_
              rintro e w8 ⟨rfl, hr8, hk8⟩
              go_wp2
              refine stg_v (x := (.agg q.cells.toArray)) ⟨rfl, hr8⟩ hk8 ?_
              first | (simp only [mkAct, List.foldl_cons, List.foldl_nil, List.setIfInBounds_toArray, List.set_cons_succ, List.set_cons_zero, upd, reduceIte, Nat.reduceEqDiff, Nat.reduceAdd, f2, str]; done) | (simp [mkAct, upd, f2, str, *]; done)
            · -- operation 4
              obtain ⟨f3, -⟩ := hp
              obtain ⟨f3, -⟩ := f3
              try simp only [f3]
              have e19 := hcl.out
              have ef := hfold.out
              go_wp2
              refine stg_v (x := .slice (some ⟨wx.heap.size, 0, none⟩) 1 1) ⟨_, rfl, hI.size, heap_alloc_new _ _⟩ (Same.refl.alloc _) ?_
              simp [mkAct, upd, f3]
          · intro u wx hI hR
            obtain ⟨r0, r1, r2, r3, r4, -⟩ := hR
            replace r0 : u 0 = (.pointer (some ⟨b4, 1, none⟩)) := r0
            replace r1 : u 1 = v := r1
            replace r2 : u 2 = (.pointer (some ⟨rb, 0, none⟩)) := r2
            simp only [mkAct, List.foldl_cons, List.foldl_nil, List.setIfInBounds_toArray, List.set_cons_succ, List.set_cons_zero]
            try simp only [str, r0, r1, r2]
            obtain ⟨r3, hr8⟩ := r3
            obtain ⟨g, r4, hg, hbg⟩ := r4
            simp only [r4, r3]
            have hov8 := hov.out.keep hI (fun b hb hx => by have := hvbase.out b hb; omega)
            have hd8 := (hI.block _ (blk_lt hdk.out) m1).trans hdk.out
            have hdz8 := (hI.block _ (blk_lt hdz.out) n1).trans hdz.out
            have hsg : Sl wx 19 (some ⟨g, 0, none⟩) 1 1 q.cells := ⟨by rw [hcl.out], Nat.le_refl _, by unfold maxLen; omega, (fun e => by cases e), fun b hb j u hu => by
              injection hb with hb
              subst hb
              rw [add0, blk_cell hbg]
              simpa using hu⟩
            have hk8 := hkk.out.trans hI (fun _ _ h => h)
            have hz8 := hk8.size
            have hkn : k ≤ 10 := by omega
            clear hI r0 r1 r2 r3 r4 hbg hov hdk hdz hrk hkk c1 hfold
            replace hov8 := Lib.hid hov8
            replace hd8 := Lib.hid hd8
            replace hdz8 := Lib.hid hdz8
            replace hsg := Lib.hid hsg
            replace hk8 := Lib.hid hk8
            replace hr8 := Lib.hid hr8
            go_wp2_with (at_builtin; refine append_sl rfl _ _ rfl reqsT hov8.out rfl rfl hsg.out req_cell hz8 (by omega) (by omega) ?_; intro v9 w9 ho9 hk9 hz9; clear hz9; rw [rv_one] at ho9; have hd9 := (hk9.block _ (blk_lt hd8.out) (fun hx => hvn.out _ hx rfl)).trans hd8.out; have hdz9 := (hk9.block _ (blk_lt hdz8.out) (fun hx => hvn2.out _ hx rfl)).trans hdz8.out; have c91 : w9.cell? ⟨b4, 1, none⟩ = some v := (by rw [blk_cell hd9]; rfl); have fz9 := blk_frozen hd9 1; obtain ⟨ao9, c9, rfl, -⟩ := ho9.sl; replace ho9 := Lib.hid ho9; replace hk9 := Lib.hid hk9; replace hd9 := Lib.hid hd9; replace hdz9 := Lib.hid hdz9)
            go_roundw
            case rel =>
              have hne := own_ne' ho9.out hd9.out (by decide)
              have hks : Keep (· = b4) w9 (w9.setCell ⟨b4, 1, none⟩ (.slice ao9 (k + 1) c9)) := Keep.setCell (p := (· = b4)) _ rfl
              have hk89 : Keep (· = rb) w w9 := hk8.out.trans hk9.out (fun x hx hv => by have := hvbase.out x hv; omega)
              refine ⟨k + 1, .slice ao9 (k + 1) c9, by omega, by go_num, (blk_set hd9.out).trans rfl, (hks.block _ (blk_lt hdz9.out) m0).trans hdz9.out, ?_, ?_, hk89.trans hks (fun x hx hv => by have := hb4.out; omega)⟩
              · rw [hGk.out]
                exact ho9.out.keep hks (fun b hb hx => hne b hb hx)
              · rw [hGk.out]
                exact (hr8.out.keep hk9.out (fun hx => by have := hvbase.out _ hx; omega) (fun hx => by have := hvbase.out _ hx; omega)).keep hks m3 m4
            case measure => simp [intOf]; omega
        · have hkn : k = n - 1 := by omega
          subst hkn
          have hne1 : ¬ (((n - 1 + 1 : Nat) : Int) < (n : Int)) := by omega
          have hE := hR.out
          have hll := hGl.out (n - 1)
          have hvn2 := own_ne' hov hdz (by decide)
          have hvb := hov.base
          obtain ⟨ao, c, rfl, hsl⟩ := hov.sl
          have hvb2 : ∀ a, ao = some a → w.heap.size ≤ a.block := fun a ha => hvb a.block (by subst ha; rfl)
          clear hvb
          replace hvb2 := Lib.hid hvb2
          have hvn3 : ∀ b, ao = some b → b.block ≠ b2 := fun b hb => hvn2 b.block (by subst hb; rfl)
          obtain ⟨gl, hgl⟩ : ∃ l, l = (G (n - 1)).1 := ⟨_, rfl⟩
          obtain ⟨gs, hgs⟩ : ∃ s, s = (G (n - 1)).2 := ⟨_, rfl⟩
          rw [← hgs] at hE hrk
          rw [← hgl] at hE hsl hll
          have hRs := hR2.out
          rw [← hgs] at hRs
          have cE2 := hrk.err
          obtain ⟨m, hm⟩ : ∃ m, m = n - 1 := ⟨_, rfl⟩
          rw [← hm] at hne1 hll hsl hdk ⊢
          obtain ⟨E, hEe⟩ : ∃ E, E = gs.2 := ⟨_, rfl⟩
          rw [← hEe] at hE cE2
          clear hov hGl hGs hG0 hgt hget hR hR2 hgs hgl hd0 hr3 hk03 hk hvn2 hdq
          replace hm := Lib.hid hm
          replace hrk := Lib.hid hrk
          replace hkk := Lib.hid hkk
          replace hdk := Lib.hid hdk
          have hd0 := Lib.hid hdz
          clear hdz
          replace hsl := Lib.hid hsl
          replace hRs := Lib.hid hRs
          replace hll := Lib.hid hll
          replace hEe := Lib.hid hEe
          replace hvn3 := Lib.hid hvn3
          by_cases hEz : E = 0
          · have hz : ((E : Int) != 0) = false := by simp [hEz]
            rw [if_neg (by simp [hEz]), decide_eq_false hn0] at hE
            clear hEz
            replace hE := Lib.hid hE
            have hinfQ := Lib.hid (bat_cells false (.slice ao m c))
            go_wp2_with (first | (refine load_row rfl _ _ rfl b4 rfl _ _ _ _ hdk.out Try.underlying24 rfl hinfQ.out ?_) | (refine store_row rfl _ _ _ rfl b2 #[.bool false, .slice ao m c] rfl rfl _ _ hd0.out hinfQ.out rfl (by simp [Value.oneCell']) ?_; intro w10 hb10 hk10; replace hb10 := Lib.hid hb10; replace hk10 := Lib.hid hk10))
            refine bodyPost_ret (v := .agg #[.bool false, .slice ao m c]) (results_row (p := 2) (ty := 24) rfl _ _ b2 _ _ _ _ rfl hb10.out Try.underlying24 rfl hinfQ.out) rfl ?_
            have hs10 := hsl.out.keep hk10.out (fun b hb _ hx => hvn3.out b hb hx)
            refine ⟨ao, c, by rw [hE.out]; simp only; rw [hll.out], ?_, by rw [hRs.out]; exact hrk.out.keep hk10.out n3 n4, hkk.out.trans hk10.out (fun x hx hv => by have := hb2.out; omega), hvb2.out⟩
            rw [hE.out]
            simp only
            rw [hll.out]
            exact hs10
          · have hz : ((E : Int) != 0) = true := by simp; omega
            rw [if_pos hEz] at hE
            clear hEz
            replace hE := Lib.hid hE
            go_wp2_with (first | (refine build_const (ty := 24) (.agg #[.bool false, .slice none 0 0]) rfl rfl (by kernel_rfl) ?_) | (refine store_row rfl _ _ _ rfl b2 #[.bool false, .slice none 0 0] rfl rfl _ _ hd0.out hinfZ.out rfl (by simp [Value.oneCell']) ?_; intro w10 hb10 hk10; replace hb10 := Lib.hid hb10; replace hk10 := Lib.hid hk10))
            refine bodyPost_ret (v := .agg #[.bool false, .slice none 0 0]) (results_row (p := 2) (ty := 24) rfl _ _ b2 _ _ _ _ rfl hb10.out Try.underlying24 rfl hinfZ.out) rfl ?_
            refine ⟨none, 0, by rw [hE.out]; rfl, ?_, by rw [hRs.out]; exact hrk.out.keep hk10.out n3 n4, hkk.out.trans hk10.out (fun x hx hv => by have := hb2.out; omega), fun a ha => by cases ha⟩
            rw [hE.out]
            exact Sl.none _ 19
  · have hz : ((sa.2 : Int) != 0) = true := by simp; omega
    have hn0 := ke.out hE1
    subst hn0
    have hE := hR.out
    rw [Nat.zero_sub, hG0.out] at hE
    simp only [ne_eq, hE1, not_false_eq_true, if_true] at hE
    clear hE1 hR hGs hGl hgt hget
    replace hE := Lib.hid hE
    go_wp2_with (first | (refine build_const (ty := 24) (.agg #[.bool false, .slice none 0 0]) rfl rfl (by kernel_rfl) ?_) | (refine store_row rfl _ _ _ rfl b2 #[.bool false, .slice none 0 0] rfl rfl _ _ hd0.out hinfZ.out rfl (by simp [Value.oneCell']) ?_; intro w10 hb10 hk10; replace hb10 := Lib.hid hb10; replace hk10 := Lib.hid hk10))
    refine bodyPost_ret (v := .agg #[.bool false, .slice none 0 0]) (results_row (p := 2) (ty := 24) rfl _ _ b2 _ _ _ _ rfl hb10.out Try.underlying24 rfl hinfZ.out) rfl ?_
    exact ⟨none, 0, by rw [hE.out]; rfl, by rw [hE.out]; exact Sl.none _ 19, by rw [hE.out]; exact hr2.out.keep hk10.out n3 n4, hk02.out.trans hk10.out (fun x hx hv => by have := hb2.out; omega), fun a ha => by cases ha⟩
theorem rText_most (s : List UInt8 × Nat) (m : Int) (h : 0 ≤ m) : ((Num.rText s m).1.length : Int) ≤ m := by
  unfold Num.rText
  split
  · simpa using h
  · split
    split
    · simpa using h
    · split
      · simpa using h
      · split
        · simpa using h
        · simp only [List.length_take]
          omega
theorem lit_i64 {n : Int} (h0 : 0 ≤ n) (h1 : n ≤ 1099511627776) : (Lit.int .i64 n).wf = true := by
  simp [Lit.wf, IntKind.min, IntKind.max, IntKind.signed, IntKind.bits]
  omega
theorem reqGet_wf (s : List UInt8 × Nat) : (reqGet s).1.wf ∧ (reqGet s).1.data.size ≤ 140737488351232 := by
  have ht := reqGet_tag s
  refine ⟨⟨ht, ?_, ?_, ?_⟩, ?_⟩
  all_goals
    unfold reqGet
    simp only
    split
  · decide
  · exact lit_i64 (by simp) (by have := rNum_most s 8 (by omega); simp only; omega)
  · decide
  · exact lit_i64 (by simp) (by have := rNum_most (Num.rNum s 8).2 1099511627776 (by omega); simp only; omega)
  · decide
  · have := rText_most (Num.rNum (Num.rNum s 8).2 1099511627776).2 64 (by omega)
    show (List.toArray _).size ≤ maxLen
    rw [List.size_toArray]
    unfold maxLen
    omega
  · decide
  · have := rText_most (Num.rNum (Num.rNum s 8).2 1099511627776).2 64 (by omega)
    show (List.toArray _).size ≤ _
    rw [List.size_toArray]
    omega
theorem reqGets_wf (s : List UInt8 × Nat) : ∀ k, ∀ r ∈ (reqGets k s).1, r.wf ∧ r.data.size ≤ 140737488351232 := by
  intro k
  induction k with
  | zero => intro r hr; cases hr
  | succ k ih =>
    intro r hr
    simp only [reqGets, List.mem_append, List.mem_singleton] at hr
    rcases hr with hr | rfl
    · exact ih r hr
    · exact reqGet_wf _
theorem batGet_wf (s : List UInt8 × Nat) : ∀ r ∈ (batGet s).1.2, r.wf ∧ r.data.size ≤ 140737488351232 := by
  intro r hr
  unfold batGet at hr
  simp only at hr
  split at hr
  · cases hr
  · exact reqGets_wf _ _ r hr
def isGotC (rb db : Nat) (q : Bool) (l : List Req) (s : List UInt8 × Nat) (B : Nat) : Value → World → Prop := fun v w => ∃ ao c, v = .agg #[.bool q, .slice ao l.length c] ∧ Sl w 19 ao l.length c (rv l) ∧ Rdr w rb db s ∧ ∀ a, ao = some a → B ≤ a.block
theorem isGotC_stable (rb db : Nat) (q : Bool) (l : List Req) (s : List UInt8 × Nat) (B : Nat) : Stable Same (isGotC rb db q l s B) := fun _ _ _ k ⟨ao, c, h, h1, h2, h3⟩ => ⟨ao, c, h, h1.same k, h2.same k, h3⟩
theorem isGotC_keep {rb db rb2 : Nat} {q : Bool} {l : List Req} {s : List UInt8 × Nat} {B : Nat} (h1 : ¬ rb = rb2) (h2 : ¬ db = rb2) (h3 : rb2 < B) : Stable (Keep (fun x => x = rb2)) (isGotC rb db q l s B) := fun _ _ _ k ⟨ao, c, h, hs, hr, hb⟩ => ⟨ao, c, h, hs.keep k (fun a ha _ hx => by have := hb a ha; omega), hr.keep k h1 h2, hb⟩
def isRGotC (rb db : Nat) (q : Bool) (l : List Req) (s : List UInt8 × Nat) : Value → World → Prop := fun v w => ∃ ao c, v = .agg #[.bool q, .slice ao l.length c] ∧ Sl w 19 ao l.length c (rv l) ∧ RRdr w rb db s
theorem isRGotC_stable (rb db : Nat) (q : Bool) (l : List Req) (s : List UInt8 × Nat) : Stable Same (isRGotC rb db q l s) := fun _ _ _ k ⟨ao, c, h, h1, h2⟩ => ⟨ao, c, h, h1.same k, h2.same k⟩
set_option maxRecDepth 100000 in
set_option maxHeartbeats 6400000 in
theorem walk_BatchReads (w : World) (ao : Option Addr) (n c : Nat) (xs : List UInt8) (hsl : Sl w 1 ao n c (bv xs)) (b : BatV) (hb : b.at w) :
    Calls Try.prog 10 #[.slice ao n c, .agg b.cells.toArray] w fun e w' => e = .returned (.bool true) ∧ Same w w' := by
  have hl := Lib.hid lives7
  have hinf := Lib.hid (bat_info b)
  have hlen : xs.length = n := by have := hsl.len; rw [bv_length] at this; omega
  have hmostn : n ≤ 9223372036854775807 := by have := hsl.cap; have := hsl.most; unfold maxLen at this; omega
  replace hb := Lib.hid hb
  replace hsl := Lib.hid hsl
  replace hlen := Lib.hid hlen
  by_cases hn : 2000 < n
  · have hdn : decide (2000 < (n : Int)) = true := decide_eq_true (by omega)
    go_enter Try.func10, Try.ntmps10
    go_upto_region 1 with (refine box_row rfl _ _ rfl b.cells.toArray rfl hinf.out ?_; intro w1 hbb hs0; replace hbb := Lib.hid hbb)
    have s0 := Lib.hid hs0
    clear hs0
    go_wp2_with fail
    refine (hl.out _).mono ?_
    rintro e w3 ⟨rfl, hs⟩
    replace s0 := Lib.hid (s0.out.trans hs)
    clear hs
    go_wp2
    go_ret
    exact ⟨rfl, s0.out⟩
  · have hdn : decide (2000 < (n : Int)) = false := decide_eq_false (by omega)
    go_enter Try.func10, Try.ntmps10
    go_upto_region 1 with (refine box_row rfl _ _ rfl b.cells.toArray rfl hinf.out ?_; intro w1 hbb hs0; replace hbb := Lib.hid hbb)
    have s0 := Lib.hid hs0
    have sb := Lib.hid (Same.refl (w := w1))
    have zb1 := blk_lt hbb.out
    clear hs0
    go_wp2_with (first | (refine load_row rfl _ _ rfl w.heap.size rfl _ _ _ _ (sb.out.at hbb.out) Try.underlying24 rfl hinf.out ?_) | (refine build_sl (W' := w1.alloc (.cells (bvs [b]).toArray 24)) (.slice (some ⟨w1.heap.size, 0, none⟩) 1 1) rfl rfl (by kernel_rfl) ?_))
    have hlt := light7_any (some ⟨w1.heap.size, 0, none⟩) 1 1 [b] (w1.alloc (.cells (bvs [b]).toArray 24)) (bvs_box [b] 1 rfl (by unfold maxLen; omega)) rfl (by
      intro x hx
      have hw : Same w (w1.alloc (.cells (bvs [b]).toArray 24)) := s0.out.trans (Same.refl.alloc _)
      simp only [List.mem_cons, List.not_mem_nil, or_false] at hx
      subst hx
      exact BatV.same hb.out hw)
    refine hlt.mono ?_
    rintro e w2 ⟨L, rfl, hL, hs'⟩
    have hs : Same w1 w2 := (Same.refl.alloc _).trans hs'
    clear hs' hlt
    replace s0 := Lib.hid (s0.out.trans hs)
    replace sb := Lib.hid (sb.out.trans hs)
    clear hs
    replace hL := Lib.hid hL
    cases L
    · clear hL
      go_wp2_with fail
      refine (hl.out _).mono ?_
      rintro e w3 ⟨rfl, hs⟩
      replace s0 := Lib.hid (s0.out.trans hs)
      replace sb := Lib.hid (sb.out.trans hs)
      clear hs
      go_wp2
      go_ret
      exact ⟨rfl, s0.out⟩
    · have smb := hL.out (by simp) b (by simp)
      clear hL
      have hrd := fun w h => read_any ao n c xs w h (by omega)
      have hrrd := fun w h => rread_any ao n c xs w h (by omega)
      unfold RetRead at hrd
      unfold RRetRead at hrrd
      have hpA := fun w h1 h2 => bput_any ao n c xs b w h1 (by omega) h2 smb
      have hpB := fun w h1 h2 => rbput_any ao n c xs b w h1 (by omega) h2 smb
      have hdA := fun w h => bdig_any b w h smb
      have hdB := fun w h => rbdig_any b w h smb
      have hDl := batDig_length b.noop b.reqs
      obtain ⟨A, hA⟩ : ∃ A, A = xs ++ batPut b.noop b.reqs := ⟨_, rfl⟩
      obtain ⟨D, hD⟩ : ∃ D, D = batDig b.noop b.reqs := ⟨_, rfl⟩
      rw [← hA] at hpA hpB
      rw [← hD] at hdA hdB hDl
      unfold RetS at hpA hpB
      have heD := fun w => dig_eql D D hDl hDl w
      rw [show (D == D) = true from by simp] at heD
      have hgd := dig_guard
      have hgA := fun rb db w h => bget_any rb db (xs, 0) w h (by simp only; rw [hlen.out]; omega)
      have hgB := fun rb db w h => rbget_any rb db (xs, 0) w h (by simp only; rw [hlen.out]; omega)
      have hgw := batGet_wf (xs, 0)
      obtain ⟨G, hG⟩ : ∃ G, G = batGet (xs, 0) := ⟨_, rfl⟩
      rw [← hG] at hgA hgB hgw
      obtain ⟨⟨q, l⟩, sx⟩ := G
      unfold RetBat at hgA
      unfold RRetBat at hgB
      simp only at hgA hgB hgw
      have hsame := fun ao1 c1 ao2 c2 w h1 h2 => rbsame_any ⟨q, ao1, c1, l⟩ ⟨q, ao2, c2, l⟩ w h1 h2
      have hst : ∀ ao1 c1 ao2 c2, batSame ⟨q, ao1, c1, l⟩ ⟨q, ao2, c2, l⟩ = true := fun ao1 c1 ao2 c2 => (batSame_iff _ _).2 ⟨rfl, rfl⟩
      simp only [hst] at hsame
      clear hA hD hDl hG hst smb
      replace hrd := Lib.hid hrd
      replace hrrd := Lib.hid hrrd
      replace hpA := Lib.hid hpA
      replace hpB := Lib.hid hpB
      replace hdA := Lib.hid hdA
      replace hdB := Lib.hid hdB
      replace heD := Lib.hid heD
      replace hgd := Lib.hid hgd
      replace hgA := Lib.hid hgA
      replace hgB := Lib.hid hgB
      replace hgw := Lib.hid hgw
      replace hsame := Lib.hid hsame
      have hsl2 := Lib.hid (hsl.out.same s0.out)
      have z02 := sb.out.size
      go_wp2_with fail
      refine (hrd.out _ hsl2.out).mono ?_
      rintro e w3 ⟨rb, db, rfl, hr, hrb, hdb, hs⟩
      replace s0 := Lib.hid (s0.out.trans hs)
      replace sb := Lib.hid (sb.out.trans hs)
      clear hs
      have hsl3 := Lib.hid (hsl.out.same s0.out)
      have sr := Lib.hid (Same.refl (w := w3))
      replace hr := Lib.hid hr
      have hrl := hr.out.lt
      go_wp2_with fail
      refine (hrrd.out _ hsl3.out).mono ?_
      rintro e w4 ⟨rb2, db2, rfl, hq, hrb2, hdb2, hs⟩
      replace s0 := Lib.hid (s0.out.trans hs)
      replace sb := Lib.hid (sb.out.trans hs)
      replace sr := Lib.hid (sr.out.trans hs)
      clear hs
      have hr4 := Lib.hid (hr.out.same sr.out)
      replace hq := Lib.hid hq
      have hql := hq.out.lt
      obtain ⟨p1, p2, p3, p4⟩ : ¬ rb = rb2 ∧ ¬ db = rb2 ∧ ¬ rb2 = rb ∧ ¬ db2 = rb := ⟨by omega, by omega, by omega, by omega⟩
      have p5 : rb2 < w4.heap.size := by omega
      have p6 : ¬ w.heap.size = rb := by omega
      have p7 : ¬ w.heap.size = rb2 := by have := sr.out.size; omega
      have p8 : w.heap.size ≤ rb ∧ w.heap.size ≤ rb2 := ⟨by omega, by have := sr.out.size; omega⟩
      have hsk : Stable (Keep (fun x => x = rb2)) (isGotC rb db q l sx w4.heap.size) := isGotC_keep p1 p2 p5
      have z00 := s0.out.size
      have hbx : b.reqs ≠ [] → ∀ a, b.ao = some a → a.block < w.heap.size := by
        intro hne a ha
        refine hb.out.1.lt ?_ ha
        intro h2
        have := hb.out.1.len
        rw [h2] at this
        have h3 := List.length_pos_iff.2 hne
        simp at this
        omega
      have hxx : xs ≠ [] → ∀ a, ao = some a → a.block < w.heap.size := by
        intro hne a ha
        refine hsl.out.lt ?_ ha
        intro h2
        exact hne (by simpa [bv] using h2)
      have hbwx : ∀ wx, Keep (fun x => x = rb ∨ x = rb2) w4 wx → b.at wx := fun wx hI => ⟨(BatV.same hb.out s0.out).1.keep hI (fun a ha hne hx => by have := hbx (fun h => hne (by simp [rv, h])) a ha; omega), hb.out.2⟩
      have hslx : ∀ wx, Keep (fun x => x = rb ∨ x = rb2) w4 wx → Sl wx 1 ao n c (bv xs) := fun wx hI => (hsl.out.same s0.out).keep hI (fun a ha hne hx => by have := hxx (fun h => hne (by simp [bv, h])) a ha; omega)
      clear hr sr hbx hxx hrb hdb hrb2 hdb2 hrl hql
      replace hbwx := Lib.hid hbwx
      replace hslx := Lib.hid hslx
      replace hsk := Lib.hid hsk
      go_upto_region 4 with fail
      have hsk := hsk.out
      refine wp_region_mut (by kernel_rfl) [(21, 0), (22, 1), (23, 2), (24, 3), (25, 4), (26, 5), (27, 6), (28, 7), (29, 8), (30, 9), (31, 10), (32, 11), (33, 12), (34, 13), (35, 14), (36, 15), (37, 16), (38, 17), (39, 18), (40, 19), (41, 20), (42, 21), (43, 22), (44, 23), (45, 24), (46, 25), (47, 26), (48, 27), (49, 28), (50, 29), (51, 30), (52, 31), (53, 32), (54, 33), (55, 34), (56, 35), (57, 36), (58, 37), (59, 38), (60, 39), (61, 40), (62, 41)] [(18, (Keep (fun x => x = rb))), (20, (Keep (fun x => x = rb2)))] [(2, [18, 20]), (6, [18, 20]), (18, [18]), (20, [18, 20]), (1000, [18]), (1001, [20])] [0, 1, 3, 4, 5, 7, 8, 9, 10, 11, 12, 13, 14, 15, 16, 17, 18, 19, 20, 21, 22, 23, 24, 25, 26, 27, 28, 29, 30, 31, 32, 33, 34, 35, 36, 37, 38, 39, 40, 41] [[], [], [0, 1], [2], [], [], [4, 5], [6], [3, 7], [8], [9], [10, 9], [9], [12, 9], [11, 13, 9], [9, 14], [15], [16], [17, 16, 1000], [16], [19, 16, 1001], [18, 20, 16], [16, 21], [22], [23], [24, 23, 18], [23], [26, 23], [27, 23], [28, 23, 20], [25, 29, 23], [23, 30], [31], [32], [33, 32, 18], [32], [35, 32, 20], [34, 36, 32], [32, 37], [38], [39], [39, 40]] Same (Keep (fun x => x = rb ∨ x = rb2) w4) [(fun w => Rdr w rb db (xs, 0)), (fun w => RRdr w rb2 db2 (xs, 0))] [isV (.slice ao n c), isV (.agg b.cells.toArray), isB A, isV (str A), isV (.slice ao n c), isV (.agg b.cells.toArray), isB A, isV (str A), isV (.bool true), isV (.bool true), isV (.agg b.cells.toArray), isV (.agg (bv D).toArray), isV (.agg b.cells.toArray), isV (.agg (bv D).toArray), isV (.bool true), isV (.bool true), isV (.bool true), isV (.pointer (some ⟨rb, 0, none⟩)), isGotC rb db q l sx w4.heap.size, isV (.pointer (some ⟨rb2, 0, none⟩)), isRGotC rb2 db2 q l sx, isV (.bool true), isV (.bool true), isV (.bool true), isV (.pointer (some ⟨rb, 0, none⟩)), isV (.int .i64 (sx.2 : Int)), isV (.pointer (some ⟨rb2, 0, none⟩)), isV (.pointer (some ⟨rb2, 0, none⟩)), isV (.pointer (some ⟨rb2, 2, none⟩)), isV (.int .i64 (sx.2 : Int)), isV (.bool true), isV (.bool true), isV (.bool true), isV (.pointer (some ⟨rb, 0, none⟩)), isV (.int .i64 (Num.rLeft sx : Int)), isV (.pointer (some ⟨rb2, 0, none⟩)), isV (.int .i64 (Num.rLeft sx : Int)), isV (.bool true), isV (.bool true), isV (.bool true), isV (.bool true), isV (.bool true)] (Keep.drew) (by intro g hg; simp only [List.mem_cons, List.not_mem_nil, or_false] at hg; rcases hg with rfl | rfl; exact (hr4.out.same Same.refl.drew); exact (hq.out.same Same.refl.drew)) (fun _ _ h k => h.trans (Keep.of_same (p := fun _ => False) k) (fun _ _ h => h.elim)) (by intro g hg; simp only [List.mem_cons, List.not_mem_nil, or_false] at hg; rcases hg with rfl | rfl; exact (fun _ _ h k => h.trans k (fun x _ hx => .inl hx)); exact (fun _ _ h k => h.trans k (fun x _ hx => .inr hx))) (by simp [isV_stable, isB_stable, isAny_stable, isGotC_stable, isRGotC_stable]) (by intro g hg; simp only [List.mem_cons, List.not_mem_nil, or_false] at hg; rcases hg with rfl | rfl; exact (fun _ _ k h => h.same k); exact (fun _ _ k h => h.same k)) (by simp [killsOf, List.zipIdx_cons, isV_stable, isAny_stable, hsk]) (by simp [killsOf, List.zipIdx_cons]; exact ⟨fun _ _ k h => h.keep k p3 p4, fun _ _ k h => h.keep k p1 p2⟩) (by decide) (l := [_, _, _, _, _, _, _, _, _, _, _, _, _, _, _, _, _, _, _, _, _, _, _, _, _, _, _, _, _, _, _, _, _, _, _, _, _, _, _, _, _, _]) rfl (by decide) (by kernel_rfl) (by kernel_rfl) (by kernel_rfl) (by decide) ?_ ?_
      · refine ⟨?_, ?_, ?_, ?_, ?_, ?_, ?_, ?_, ?_, ?_, ?_, ?_, ?_, ?_, ?_, ?_, ?_, ?_, ?_, ?_, ?_, ?_, ?_, ?_, ?_, ?_, ?_, ?_, ?_, ?_, ?_, ?_, ?_, ?_, ?_, ?_, ?_, ?_, ?_, ?_, ?_, ?_, trivial⟩
        all_goals (intro u wx hI hp; simp only [mkAct, List.foldl_cons, List.foldl_nil, List.setIfInBounds_toArray, List.set_cons_succ, List.set_cons_zero])
        · -- operation 0
          go_wp2
          refine stg_v (x := (.slice ao n c)) rfl Same.refl ?_
          first | (simp only [mkAct, List.foldl_cons, List.foldl_nil, List.setIfInBounds_toArray, List.set_cons_succ, List.set_cons_zero, upd, reduceIte, Nat.reduceEqDiff, Nat.reduceAdd, str]; done) | (simp [mkAct, upd, str, *]; done)
        · -- operation 1
          go_wp2_with (refine load_row rfl _ _ rfl w.heap.size rfl _ _ _ _ ((hI.block _ (blk_lt (sb.out.at hbb.out)) (fun h => h.elim p6 p7)).trans (sb.out.at hbb.out)) Try.underlying24 rfl hinf.out ?_)
          refine stg_v (x := (.agg b.cells.toArray)) rfl Same.refl ?_
          first | (simp only [mkAct, List.foldl_cons, List.foldl_nil, List.setIfInBounds_toArray, List.set_cons_succ, List.set_cons_zero, upd, reduceIte, Nat.reduceEqDiff, Nat.reduceAdd, str]; done) | (simp [mkAct, upd, str, *]; done)
        · -- operation 2
          obtain ⟨f0, f1, -⟩ := hp
          replace f0 : u 0 = (.slice ao n c) := f0
          replace f1 : u 1 = (.agg b.cells.toArray) := f1
          try simp only [f0, f1, str]
          have hbw := Lib.hid (hbwx.out _ hI)
          have hsw := Lib.hid (hslx.out _ hI)
          go_wp2_with fail
          refine (hpA.out _ hsw.out hbw.out).mono ?_
          rintro e w1 ⟨ao', c', rfl, hsl', hs'⟩
          go_wp2
          refine stg_v (x := (.slice ao' _ c')) ⟨ao', c', rfl, hsl'⟩ hs' ?_
          first | (simp only [mkAct, List.foldl_cons, List.foldl_nil, List.setIfInBounds_toArray, List.set_cons_succ, List.set_cons_zero, upd, reduceIte, Nat.reduceEqDiff, Nat.reduceAdd, f0, f1, str]; done) | (simp [mkAct, upd, f0, f1, str, *]; done)
        · -- operation 3
          obtain ⟨⟨ao2, c2, f2, hsl2⟩, -⟩ := hp
          try simp only [f2, str]
          go_wp2_with (refine conv_string rfl _ rfl byT u8T strT rfl hsl2 ?_)
          refine stg_v (x := (str A)) rfl Same.refl ?_
          first | (simp only [mkAct, List.foldl_cons, List.foldl_nil, List.setIfInBounds_toArray, List.set_cons_succ, List.set_cons_zero, upd, reduceIte, Nat.reduceEqDiff, Nat.reduceAdd, f2, str]; done) | (simp [mkAct, upd, f2, str, *]; done)
        · -- operation 4
          go_wp2
          refine stg_v (x := (.slice ao n c)) rfl Same.refl ?_
          first | (simp only [mkAct, List.foldl_cons, List.foldl_nil, List.setIfInBounds_toArray, List.set_cons_succ, List.set_cons_zero, upd, reduceIte, Nat.reduceEqDiff, Nat.reduceAdd, str]; done) | (simp [mkAct, upd, str, *]; done)
        · -- operation 5
          go_wp2_with (refine load_row rfl _ _ rfl w.heap.size rfl _ _ _ _ ((hI.block _ (blk_lt (sb.out.at hbb.out)) (fun h => h.elim p6 p7)).trans (sb.out.at hbb.out)) Try.underlying24 rfl hinf.out ?_)
          refine stg_v (x := (.agg b.cells.toArray)) rfl Same.refl ?_
          first | (simp only [mkAct, List.foldl_cons, List.foldl_nil, List.setIfInBounds_toArray, List.set_cons_succ, List.set_cons_zero, upd, reduceIte, Nat.reduceEqDiff, Nat.reduceAdd, str]; done) | (simp [mkAct, upd, str, *]; done)
        · -- operation 6
          obtain ⟨f4, f5, -⟩ := hp
          replace f4 : u 4 = (.slice ao n c) := f4
          replace f5 : u 5 = (.agg b.cells.toArray) := f5
          try simp only [f4, f5, str]
          have hbw := Lib.hid (hbwx.out _ hI)
          have hsw := Lib.hid (hslx.out _ hI)
          go_wp2_with fail
          refine (hpB.out _ hsw.out hbw.out).mono ?_
          rintro e w1 ⟨ao', c', rfl, hsl', hs'⟩
          go_wp2
          refine stg_v (x := (.slice ao' _ c')) ⟨ao', c', rfl, hsl'⟩ hs' ?_
          first | (simp only [mkAct, List.foldl_cons, List.foldl_nil, List.setIfInBounds_toArray, List.set_cons_succ, List.set_cons_zero, upd, reduceIte, Nat.reduceEqDiff, Nat.reduceAdd, f4, f5, str]; done) | (simp [mkAct, upd, f4, f5, str, *]; done)
        · -- operation 7
          obtain ⟨⟨ao6, c6, f6, hsl6⟩, -⟩ := hp
          try simp only [f6, str]
          go_wp2_with (refine conv_string rfl _ rfl byT u8T strT rfl hsl6 ?_)
          refine stg_v (x := (str A)) rfl Same.refl ?_
          first | (simp only [mkAct, List.foldl_cons, List.foldl_nil, List.setIfInBounds_toArray, List.set_cons_succ, List.set_cons_zero, upd, reduceIte, Nat.reduceEqDiff, Nat.reduceAdd, f6, str]; done) | (simp [mkAct, upd, f6, str, *]; done)
        · -- operation 8
          obtain ⟨f3, f7, -⟩ := hp
          replace f3 : u 3 = (str A) := f3
          replace f7 : u 7 = (str A) := f7
          try simp only [f3, f7, str]
          go_wp2
          refine stg_v (x := (.bool true)) rfl Same.refl ?_
          first | (simp only [mkAct, List.foldl_cons, List.foldl_nil, List.setIfInBounds_toArray, List.set_cons_succ, List.set_cons_zero, upd, reduceIte, Nat.reduceEqDiff, Nat.reduceAdd, f3, f7, str]; done) | (simp [mkAct, upd, f3, f7, str, *]; done)
        · -- operation 9
          obtain ⟨f8, -⟩ := hp
          replace f8 : u 8 = (.bool true) := f8
          try simp only [f8, str]
          go_wp2
          refine stg_v (x := (.bool true)) rfl Same.refl ?_
          first | (simp only [mkAct, List.foldl_cons, List.foldl_nil, List.setIfInBounds_toArray, List.set_cons_succ, List.set_cons_zero, upd, reduceIte, Nat.reduceEqDiff, Nat.reduceAdd, f8, str]; done) | (simp [mkAct, upd, f8, str, *]; done)
        · -- operation 10
          obtain ⟨f9, -⟩ := hp
          replace f9 : u 9 = (.bool true) := f9
          try simp only [f9, str]
          go_wp2_with (refine load_row rfl _ _ rfl w.heap.size rfl _ _ _ _ ((hI.block _ (blk_lt (sb.out.at hbb.out)) (fun h => h.elim p6 p7)).trans (sb.out.at hbb.out)) Try.underlying24 rfl hinf.out ?_)
          refine stg_v (x := (.agg b.cells.toArray)) rfl Same.refl ?_
          first | (simp only [mkAct, List.foldl_cons, List.foldl_nil, List.setIfInBounds_toArray, List.set_cons_succ, List.set_cons_zero, upd, reduceIte, Nat.reduceEqDiff, Nat.reduceAdd, f9, str]; done) | (simp [mkAct, upd, f9, str, *]; done)
        · -- operation 11
          obtain ⟨f10, f9, -⟩ := hp
          replace f10 : u 10 = (.agg b.cells.toArray) := f10
          replace f9 : u 9 = (.bool true) := f9
          try simp only [f10, f9, str]
          have hbw := Lib.hid (hbwx.out _ hI)
          go_wp2_with fail
          refine (hdA.out _ hbw.out).mono ?_
          rintro e w1 ⟨rfl, hs'⟩
          go_wp2
          refine stg_v (x := (.agg (bv D).toArray)) rfl hs' ?_
          first | (simp only [mkAct, List.foldl_cons, List.foldl_nil, List.setIfInBounds_toArray, List.set_cons_succ, List.set_cons_zero, upd, reduceIte, Nat.reduceEqDiff, Nat.reduceAdd, f10, f9, str]; done) | (simp [mkAct, upd, f10, f9, str, *]; done)
        · -- operation 12
          obtain ⟨f9, -⟩ := hp
          replace f9 : u 9 = (.bool true) := f9
          try simp only [f9, str]
          go_wp2_with (refine load_row rfl _ _ rfl w.heap.size rfl _ _ _ _ ((hI.block _ (blk_lt (sb.out.at hbb.out)) (fun h => h.elim p6 p7)).trans (sb.out.at hbb.out)) Try.underlying24 rfl hinf.out ?_)
          refine stg_v (x := (.agg b.cells.toArray)) rfl Same.refl ?_
          first | (simp only [mkAct, List.foldl_cons, List.foldl_nil, List.setIfInBounds_toArray, List.set_cons_succ, List.set_cons_zero, upd, reduceIte, Nat.reduceEqDiff, Nat.reduceAdd, f9, str]; done) | (simp [mkAct, upd, f9, str, *]; done)
        · -- operation 13
          obtain ⟨f12, f9, -⟩ := hp
          replace f12 : u 12 = (.agg b.cells.toArray) := f12
          replace f9 : u 9 = (.bool true) := f9
          try simp only [f12, f9, str]
          have hbw := Lib.hid (hbwx.out _ hI)
          go_wp2_with fail
          refine (hdB.out _ hbw.out).mono ?_
          rintro e w1 ⟨rfl, hs'⟩
          go_wp2
          refine stg_v (x := (.agg (bv D).toArray)) rfl hs' ?_
          first | (simp only [mkAct, List.foldl_cons, List.foldl_nil, List.setIfInBounds_toArray, List.set_cons_succ, List.set_cons_zero, upd, reduceIte, Nat.reduceEqDiff, Nat.reduceAdd, f12, f9, str]; done) | (simp [mkAct, upd, f12, f9, str, *]; done)
        · -- operation 14
          obtain ⟨f11, f13, f9, -⟩ := hp
          replace f11 : u 11 = (.agg (bv D).toArray) := f11
          replace f13 : u 13 = (.agg (bv D).toArray) := f13
          replace f9 : u 9 = (.bool true) := f9
          try simp only [f11, f13, f9, str]
          have heD := heD.out
          have hgd := hgd.out
          go_wp2
          refine stg_v (x := (.bool true)) rfl Same.refl ?_
          first | (simp only [mkAct, List.foldl_cons, List.foldl_nil, List.setIfInBounds_toArray, List.set_cons_succ, List.set_cons_zero, upd, reduceIte, Nat.reduceEqDiff, Nat.reduceAdd, f11, f13, f9, str]; done) | (simp [mkAct, upd, f11, f13, f9, str, *]; done)
        · -- operation 15
          obtain ⟨f9, f14, -⟩ := hp
          replace f9 : u 9 = (.bool true) := f9
          replace f14 : u 14 = (.bool true) := f14
          try simp only [f9, f14, str]
          go_wp2
          refine stg_v (x := (.bool true)) rfl Same.refl ?_
          first | (simp only [mkAct, List.foldl_cons, List.foldl_nil, List.setIfInBounds_toArray, List.set_cons_succ, List.set_cons_zero, upd, reduceIte, Nat.reduceEqDiff, Nat.reduceAdd, f9, f14, str]; done) | (simp [mkAct, upd, f9, f14, str, *]; done)
        · -- operation 16
          obtain ⟨f15, -⟩ := hp
          replace f15 : u 15 = (.bool true) := f15
          try simp only [f15, str]
          go_wp2
          refine stg_v (x := (.bool true)) rfl Same.refl ?_
          first | (simp only [mkAct, List.foldl_cons, List.foldl_nil, List.setIfInBounds_toArray, List.set_cons_succ, List.set_cons_zero, upd, reduceIte, Nat.reduceEqDiff, Nat.reduceAdd, f15, str]; done) | (simp [mkAct, upd, f15, str, *]; done)
        · -- operation 17
          obtain ⟨f16, -⟩ := hp
          replace f16 : u 16 = (.bool true) := f16
          try simp only [f16, str]
          go_wp2
          refine stg_v (x := (.pointer (some ⟨rb, 0, none⟩))) rfl Same.refl ?_
          first | (simp only [mkAct, List.foldl_cons, List.foldl_nil, List.setIfInBounds_toArray, List.set_cons_succ, List.set_cons_zero, upd, reduceIte, Nat.reduceEqDiff, Nat.reduceAdd, f16, str]; done) | (simp [mkAct, upd, f16, str, *]; done)
        · -- operation 18
          obtain ⟨f17, f16, fG0, -⟩ := hp
          replace f17 : u 17 = (.pointer (some ⟨rb, 0, none⟩)) := f17
          replace f16 : u 16 = (.bool true) := f16
          try simp only [f17, f16, str]
          have fG := Lib.hid fG0
          have zI := hI.size
          go_wp2_with fail
          refine (hgA.out _ _ _ fG.out).mono ?_
          rintro e w8 ⟨gao, gc, rfl, hgs, hr8, hk8, hgb⟩
          go_wp2
          refine stg_v (x := (.agg #[.bool q, .slice gao l.length gc])) ⟨gao, gc, rfl, hgs, hr8, fun a ha => Nat.le_trans zI (hgb a ha)⟩ hk8 ?_
          first | (simp only [mkAct, List.foldl_cons, List.foldl_nil, List.setIfInBounds_toArray, List.set_cons_succ, List.set_cons_zero, upd, reduceIte, Nat.reduceEqDiff, Nat.reduceAdd, f17, f16, str]; done) | (simp [mkAct, upd, f17, f16, str, *]; done)
        · -- operation 19
          obtain ⟨f16, -⟩ := hp
          replace f16 : u 16 = (.bool true) := f16
          try simp only [f16, str]
          go_wp2
          refine stg_v (x := (.pointer (some ⟨rb2, 0, none⟩))) rfl Same.refl ?_
          first | (simp only [mkAct, List.foldl_cons, List.foldl_nil, List.setIfInBounds_toArray, List.set_cons_succ, List.set_cons_zero, upd, reduceIte, Nat.reduceEqDiff, Nat.reduceAdd, f16, str]; done) | (simp [mkAct, upd, f16, str, *]; done)
        · -- operation 20
          obtain ⟨f19, f16, fG1, -⟩ := hp
          replace f19 : u 19 = (.pointer (some ⟨rb2, 0, none⟩)) := f19
          replace f16 : u 16 = (.bool true) := f16
          try simp only [f19, f16, str]
          have fG := Lib.hid fG1
          go_wp2_with fail
          refine (hgB.out _ _ _ fG.out).mono ?_
          rintro e w8 ⟨gao, gc, rfl, hgs, hr8, hk8, hgb⟩
          go_wp2
          refine stg_v (x := (.agg #[.bool q, .slice gao l.length gc])) ⟨gao, gc, rfl, hgs, hr8⟩ hk8 ?_
          first | (simp only [mkAct, List.foldl_cons, List.foldl_nil, List.setIfInBounds_toArray, List.set_cons_succ, List.set_cons_zero, upd, reduceIte, Nat.reduceEqDiff, Nat.reduceAdd, f19, f16, str]; done) | (simp [mkAct, upd, f19, f16, str, *]; done)
        · -- operation 21
          obtain ⟨f18, f20, f16, -⟩ := hp
          replace f16 : u 16 = (.bool true) := f16
          try simp only [f16, str]
          obtain ⟨ga, gc, f18, hg1, -, -⟩ := f18
          obtain ⟨ga2, gc2, f20, hg2, -⟩ := f20
          try simp only [f18, f20]
          have hw1 : BatV.at wx ⟨q, ga, gc, l⟩ := ⟨hg1, hgw.out⟩
          have hw2 : BatV.at wx ⟨q, ga2, gc2, l⟩ := ⟨hg2, hgw.out⟩
          replace hw1 := Lib.hid hw1
          replace hw2 := Lib.hid hw2
          clear hg1 hg2
          go_wp2_with fail
          refine (hsame.out _ _ _ _ _ hw1.out hw2.out).mono ?_
          rintro e w8 ⟨rfl, hs8⟩
          go_wp2
          refine stg_v (x := .bool true) rfl hs8 ?_
          simp [mkAct, upd, *]
        · -- operation 22
          obtain ⟨f16, f21, -⟩ := hp
          replace f16 : u 16 = (.bool true) := f16
          replace f21 : u 21 = (.bool true) := f21
          try simp only [f16, f21, str]
          go_wp2
          refine stg_v (x := (.bool true)) rfl Same.refl ?_
          first | (simp only [mkAct, List.foldl_cons, List.foldl_nil, List.setIfInBounds_toArray, List.set_cons_succ, List.set_cons_zero, upd, reduceIte, Nat.reduceEqDiff, Nat.reduceAdd, f16, f21, str]; done) | (simp [mkAct, upd, f16, f21, str, *]; done)
        · -- operation 23
          obtain ⟨f22, -⟩ := hp
          replace f22 : u 22 = (.bool true) := f22
          try simp only [f22, str]
          go_wp2
          refine stg_v (x := (.bool true)) rfl Same.refl ?_
          first | (simp only [mkAct, List.foldl_cons, List.foldl_nil, List.setIfInBounds_toArray, List.set_cons_succ, List.set_cons_zero, upd, reduceIte, Nat.reduceEqDiff, Nat.reduceAdd, f22, str]; done) | (simp [mkAct, upd, f22, str, *]; done)
        · -- operation 24
          obtain ⟨f23, -⟩ := hp
          replace f23 : u 23 = (.bool true) := f23
          try simp only [f23, str]
          go_wp2
          refine stg_v (x := (.pointer (some ⟨rb, 0, none⟩))) rfl Same.refl ?_
          first | (simp only [mkAct, List.foldl_cons, List.foldl_nil, List.setIfInBounds_toArray, List.set_cons_succ, List.set_cons_zero, upd, reduceIte, Nat.reduceEqDiff, Nat.reduceAdd, f23, str]; done) | (simp [mkAct, upd, f23, str, *]; done)
        · -- operation 25
          obtain ⟨f24, f23, f18, -⟩ := hp
          replace f24 : u 24 = (.pointer (some ⟨rb, 0, none⟩)) := f24
          replace f23 : u 23 = (.bool true) := f23
          try simp only [f24, f23, str]
          obtain ⟨ga, gc, f18, -, hr1, -⟩ := f18
          have hr2 := Lib.hid hr1
          clear hr1
          go_wp2_with fail
          refine (err_any _ _ _ _ hr2.out).mono ?_
          rintro e w8 ⟨rfl, rfl⟩
          go_wp2
          refine stg_v (x := (.int .i64 (sx.2 : Int))) rfl Same.refl ?_
          first | (simp only [mkAct, List.foldl_cons, List.foldl_nil, List.setIfInBounds_toArray, List.set_cons_succ, List.set_cons_zero, upd, reduceIte, Nat.reduceEqDiff, Nat.reduceAdd, f24, f23, str]; done) | (simp [mkAct, upd, f24, f23, str, *]; done)
        · -- operation 26
          obtain ⟨f23, -⟩ := hp
          replace f23 : u 23 = (.bool true) := f23
          try simp only [f23, str]
          go_wp2
          refine stg_v (x := (.pointer (some ⟨rb2, 0, none⟩))) rfl Same.refl ?_
          first | (simp only [mkAct, List.foldl_cons, List.foldl_nil, List.setIfInBounds_toArray, List.set_cons_succ, List.set_cons_zero, upd, reduceIte, Nat.reduceEqDiff, Nat.reduceAdd, f23, str]; done) | (simp [mkAct, upd, f23, str, *]; done)
        · -- operation 27
          obtain ⟨f26, f23, -⟩ := hp
          replace f26 : u 26 = (.pointer (some ⟨rb2, 0, none⟩)) := f26
          replace f23 : u 23 = (.bool true) := f23
          try simp only [f26, f23, str]
          go_wp2
          refine stg_v (x := (.pointer (some ⟨rb2, 0, none⟩))) rfl Same.refl ?_
          first | (simp only [mkAct, List.foldl_cons, List.foldl_nil, List.setIfInBounds_toArray, List.set_cons_succ, List.set_cons_zero, upd, reduceIte, Nat.reduceEqDiff, Nat.reduceAdd, f26, f23, str]; done) | (simp [mkAct, upd, f26, f23, str, *]; done)
        · -- operation 28
          obtain ⟨f27, f23, -⟩ := hp
          replace f27 : u 27 = (.pointer (some ⟨rb2, 0, none⟩)) := f27
          replace f23 : u 23 = (.bool true) := f23
          try simp only [f27, f23, str]
          go_wp2
          refine stg_v (x := (.pointer (some ⟨rb2, 2, none⟩))) rfl Same.refl ?_
          first | (simp only [mkAct, List.foldl_cons, List.foldl_nil, List.setIfInBounds_toArray, List.set_cons_succ, List.set_cons_zero, upd, reduceIte, Nat.reduceEqDiff, Nat.reduceAdd, f27, f23, str]; done) | (simp [mkAct, upd, f27, f23, str, *]; done)
        · -- operation 29
          obtain ⟨f28, f23, f20, -⟩ := hp
          replace f28 : u 28 = (.pointer (some ⟨rb2, 2, none⟩)) := f28
          replace f23 : u 23 = (.bool true) := f23
          try simp only [f28, f23, str]
          obtain ⟨ga, gc, f20, -, hr1⟩ := f20
          have cE := hr1.err
          clear hr1
          go_wp2
          refine stg_v (x := (.int .i64 (sx.2 : Int))) rfl Same.refl ?_
          first | (simp only [mkAct, List.foldl_cons, List.foldl_nil, List.setIfInBounds_toArray, List.set_cons_succ, List.set_cons_zero, upd, reduceIte, Nat.reduceEqDiff, Nat.reduceAdd, f28, f23, str]; done) | (simp [mkAct, upd, f28, f23, str, *]; done)
        · -- operation 30
          obtain ⟨f25, f29, f23, -⟩ := hp
          replace f25 : u 25 = (.int .i64 (sx.2 : Int)) := f25
          replace f29 : u 29 = (.int .i64 (sx.2 : Int)) := f29
          replace f23 : u 23 = (.bool true) := f23
          try simp only [f25, f29, f23, str]
          go_wp2
          refine stg_v (x := (.bool true)) rfl Same.refl ?_
          first | (simp only [mkAct, List.foldl_cons, List.foldl_nil, List.setIfInBounds_toArray, List.set_cons_succ, List.set_cons_zero, upd, reduceIte, Nat.reduceEqDiff, Nat.reduceAdd, f25, f29, f23, str]; done) | (simp [mkAct, upd, f25, f29, f23, str, *]; done)
        · -- operation 31
          obtain ⟨f23, f30, -⟩ := hp
          replace f23 : u 23 = (.bool true) := f23
          replace f30 : u 30 = (.bool true) := f30
          try simp only [f23, f30, str]
          go_wp2
          refine stg_v (x := (.bool true)) rfl Same.refl ?_
          first | (simp only [mkAct, List.foldl_cons, List.foldl_nil, List.setIfInBounds_toArray, List.set_cons_succ, List.set_cons_zero, upd, reduceIte, Nat.reduceEqDiff, Nat.reduceAdd, f23, f30, str]; done) | (simp [mkAct, upd, f23, f30, str, *]; done)
        · -- operation 32
          obtain ⟨f31, -⟩ := hp
          replace f31 : u 31 = (.bool true) := f31
          try simp only [f31, str]
          go_wp2
          refine stg_v (x := (.bool true)) rfl Same.refl ?_
          first | (simp only [mkAct, List.foldl_cons, List.foldl_nil, List.setIfInBounds_toArray, List.set_cons_succ, List.set_cons_zero, upd, reduceIte, Nat.reduceEqDiff, Nat.reduceAdd, f31, str]; done) | (simp [mkAct, upd, f31, str, *]; done)
        · -- operation 33
          obtain ⟨f32, -⟩ := hp
          replace f32 : u 32 = (.bool true) := f32
          try simp only [f32, str]
          go_wp2
          refine stg_v (x := (.pointer (some ⟨rb, 0, none⟩))) rfl Same.refl ?_
          first | (simp only [mkAct, List.foldl_cons, List.foldl_nil, List.setIfInBounds_toArray, List.set_cons_succ, List.set_cons_zero, upd, reduceIte, Nat.reduceEqDiff, Nat.reduceAdd, f32, str]; done) | (simp [mkAct, upd, f32, str, *]; done)
        · -- operation 34
          obtain ⟨f33, f32, f18, -⟩ := hp
          replace f33 : u 33 = (.pointer (some ⟨rb, 0, none⟩)) := f33
          replace f32 : u 32 = (.bool true) := f32
          try simp only [f33, f32, str]
          obtain ⟨ga, gc, f18, -, hr1, -⟩ := f18
          have hr2 := Lib.hid hr1
          clear hr1
          go_wp2_with fail
          refine (left2_any _ _ _ _ hr2.out).mono ?_
          rintro e w8 ⟨rfl, rfl⟩
          go_wp2
          refine stg_v (x := (.int .i64 (Num.rLeft sx : Int))) rfl Same.refl ?_
          first | (simp only [mkAct, List.foldl_cons, List.foldl_nil, List.setIfInBounds_toArray, List.set_cons_succ, List.set_cons_zero, upd, reduceIte, Nat.reduceEqDiff, Nat.reduceAdd, f33, f32, str]; done) | (simp [mkAct, upd, f33, f32, str, *]; done)
        · -- operation 35
          obtain ⟨f32, -⟩ := hp
          replace f32 : u 32 = (.bool true) := f32
          try simp only [f32, str]
          go_wp2
          refine stg_v (x := (.pointer (some ⟨rb2, 0, none⟩))) rfl Same.refl ?_
          first | (simp only [mkAct, List.foldl_cons, List.foldl_nil, List.setIfInBounds_toArray, List.set_cons_succ, List.set_cons_zero, upd, reduceIte, Nat.reduceEqDiff, Nat.reduceAdd, f32, str]; done) | (simp [mkAct, upd, f32, str, *]; done)
        · -- operation 36
          obtain ⟨f35, f32, f20, -⟩ := hp
          replace f35 : u 35 = (.pointer (some ⟨rb2, 0, none⟩)) := f35
          replace f32 : u 32 = (.bool true) := f32
          try simp only [f35, f32, str]
          obtain ⟨ga, gc, f20, -, hr1⟩ := f20
          have hr2 := Lib.hid hr1
          clear hr1
          go_wp2_with fail
          refine (rleft_any _ _ _ _ hr2.out).mono ?_
          rintro e w8 ⟨rfl, hs8⟩
          go_wp2
          refine stg_v (x := (.int .i64 (Num.rLeft sx : Int))) rfl hs8 ?_
          first | (simp only [mkAct, List.foldl_cons, List.foldl_nil, List.setIfInBounds_toArray, List.set_cons_succ, List.set_cons_zero, upd, reduceIte, Nat.reduceEqDiff, Nat.reduceAdd, f35, f32, str]; done) | (simp [mkAct, upd, f35, f32, str, *]; done)
        · -- operation 37
          obtain ⟨f34, f36, f32, -⟩ := hp
          replace f34 : u 34 = (.int .i64 (Num.rLeft sx : Int)) := f34
          replace f36 : u 36 = (.int .i64 (Num.rLeft sx : Int)) := f36
          replace f32 : u 32 = (.bool true) := f32
          try simp only [f34, f36, f32, str]
          go_wp2
          refine stg_v (x := (.bool true)) rfl Same.refl ?_
          first | (simp only [mkAct, List.foldl_cons, List.foldl_nil, List.setIfInBounds_toArray, List.set_cons_succ, List.set_cons_zero, upd, reduceIte, Nat.reduceEqDiff, Nat.reduceAdd, f34, f36, f32, str]; done) | (simp [mkAct, upd, f34, f36, f32, str, *]; done)
        · -- operation 38
          obtain ⟨f32, f37, -⟩ := hp
          replace f32 : u 32 = (.bool true) := f32
          replace f37 : u 37 = (.bool true) := f37
          try simp only [f32, f37, str]
          go_wp2
          refine stg_v (x := (.bool true)) rfl Same.refl ?_
          first | (simp only [mkAct, List.foldl_cons, List.foldl_nil, List.setIfInBounds_toArray, List.set_cons_succ, List.set_cons_zero, upd, reduceIte, Nat.reduceEqDiff, Nat.reduceAdd, f32, f37, str]; done) | (simp [mkAct, upd, f32, f37, str, *]; done)
        · -- operation 39
          obtain ⟨f38, -⟩ := hp
          replace f38 : u 38 = (.bool true) := f38
          try simp only [f38, str]
          go_wp2
          refine stg_v (x := (.bool true)) rfl Same.refl ?_
          first | (simp only [mkAct, List.foldl_cons, List.foldl_nil, List.setIfInBounds_toArray, List.set_cons_succ, List.set_cons_zero, upd, reduceIte, Nat.reduceEqDiff, Nat.reduceAdd, f38, str]; done) | (simp [mkAct, upd, f38, str, *]; done)
        · -- operation 40
          obtain ⟨f39, -⟩ := hp
          replace f39 : u 39 = (.bool true) := f39
          try simp only [f39, str]
          go_wp2_with fail
          refine (hl.out _).mono ?_
          rintro e w1 ⟨rfl, hs'⟩
          go_wp2
          refine stg_v (x := (.bool true)) rfl hs' ?_
          first | (simp only [mkAct, List.foldl_cons, List.foldl_nil, List.setIfInBounds_toArray, List.set_cons_succ, List.set_cons_zero, upd, reduceIte, Nat.reduceEqDiff, Nat.reduceAdd, f39, str]; done) | (simp [mkAct, upd, f39, str, *]; done)
        · -- operation 41
          obtain ⟨f39, f40, -⟩ := hp
          replace f39 : u 39 = (.bool true) := f39
          replace f40 : u 40 = (.bool true) := f40
          try simp only [f39, f40, str]
          go_wp2
          refine stg_v (x := (.bool true)) rfl Same.refl ?_
          first | (simp only [mkAct, List.foldl_cons, List.foldl_nil, List.setIfInBounds_toArray, List.set_cons_succ, List.set_cons_zero, upd, reduceIte, Nat.reduceEqDiff, Nat.reduceAdd, f39, f40, str]; done) | (simp [mkAct, upd, f39, f40, str, *]; done)
      · intro u wx hI hR
        obtain ⟨r0, r1, r3, r4, r5, r7, r8, r9, r10, r11, r12, r13, r14, r15, r16, r17, r18, r19, r20, r21, r22, r23, r24, r25, r26, r27, r28, r29, r30, r31, r32, r33, r34, r35, r36, r37, r38, r39, r40, r41, -⟩ := hR
        replace r0 : u 0 = (.slice ao n c) := r0
        replace r1 : u 1 = (.agg b.cells.toArray) := r1
        replace r3 : u 3 = (str A) := r3
        replace r4 : u 4 = (.slice ao n c) := r4
        replace r5 : u 5 = (.agg b.cells.toArray) := r5
        replace r7 : u 7 = (str A) := r7
        replace r8 : u 8 = (.bool true) := r8
        replace r9 : u 9 = (.bool true) := r9
        replace r10 : u 10 = (.agg b.cells.toArray) := r10
        replace r11 : u 11 = (.agg (bv D).toArray) := r11
        replace r12 : u 12 = (.agg b.cells.toArray) := r12
        replace r13 : u 13 = (.agg (bv D).toArray) := r13
        replace r14 : u 14 = (.bool true) := r14
        replace r15 : u 15 = (.bool true) := r15
        replace r16 : u 16 = (.bool true) := r16
        replace r17 : u 17 = (.pointer (some ⟨rb, 0, none⟩)) := r17
        replace r19 : u 19 = (.pointer (some ⟨rb2, 0, none⟩)) := r19
        replace r21 : u 21 = (.bool true) := r21
        replace r22 : u 22 = (.bool true) := r22
        replace r23 : u 23 = (.bool true) := r23
        replace r24 : u 24 = (.pointer (some ⟨rb, 0, none⟩)) := r24
        replace r25 : u 25 = (.int .i64 (sx.2 : Int)) := r25
        replace r26 : u 26 = (.pointer (some ⟨rb2, 0, none⟩)) := r26
        replace r27 : u 27 = (.pointer (some ⟨rb2, 0, none⟩)) := r27
        replace r28 : u 28 = (.pointer (some ⟨rb2, 2, none⟩)) := r28
        replace r29 : u 29 = (.int .i64 (sx.2 : Int)) := r29
        replace r30 : u 30 = (.bool true) := r30
        replace r31 : u 31 = (.bool true) := r31
        replace r32 : u 32 = (.bool true) := r32
        replace r33 : u 33 = (.pointer (some ⟨rb, 0, none⟩)) := r33
        replace r34 : u 34 = (.int .i64 (Num.rLeft sx : Int)) := r34
        replace r35 : u 35 = (.pointer (some ⟨rb2, 0, none⟩)) := r35
        replace r36 : u 36 = (.int .i64 (Num.rLeft sx : Int)) := r36
        replace r37 : u 37 = (.bool true) := r37
        replace r38 : u 38 = (.bool true) := r38
        replace r39 : u 39 = (.bool true) := r39
        replace r40 : u 40 = (.bool true) := r40
        replace r41 : u 41 = (.bool true) := r41
        simp only [mkAct, List.foldl_cons, List.foldl_nil, List.setIfInBounds_toArray, List.set_cons_succ, List.set_cons_zero]
        try simp only [str, r0, r1, r3, r4, r5, r7, r8, r9, r10, r11, r12, r13, r14, r15, r16, r17, r19, r21, r22, r23, r24, r25, r26, r27, r28, r29, r30, r31, r32, r33, r34, r35, r36, r37, r38, r39, r40, r41]
        go_wp2
        go_ret
        exact ⟨rfl, s0.out.keep hI (fun x hx hv => by have := p8; rcases hv with hv | hv <;> omega)⟩
end Go.Proofs.Ythgpmgodpedjdaa
