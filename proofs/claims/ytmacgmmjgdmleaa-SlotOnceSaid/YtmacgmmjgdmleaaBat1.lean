/-
  Batches: the struct; how much is looked at (Light).
-/
import Derived.Test.YtmacgmmjgdmleaaReqP
import Derived.Test.YtmacgmmjgdmleaaAdd
import Derived.Test.YtmacgmmjgdmleaaRd
namespace Go.Proofs.Ytmacgmmjgdmleaa
open Go Go.RowKit
set_option linter.unusedSimpArgs false
set_option linter.unusedVariables false

/-- A batch's value: is it nothing, its slice's address and capacity, its requests. -/
structure BatV where
  noop : Bool
  ao : Option Addr
  c : Nat
  reqs : List Req
def BatV.cells (b : BatV) : List Value := [.bool b.noop, .slice b.ao b.reqs.length b.c]
def rv (l : List Req) : List Value := (l.map Req.cells).flatten
def BatV.at (w : World) (b : BatV) : Prop := Sl w 19 b.ao b.reqs.length b.c (rv b.reqs) ∧ ∀ r ∈ b.reqs, r.wf ∧ r.data.size ≤ 140737488351232
theorem BatV.same {w w' : World} {b : BatV} (h : b.at w) (k : Same w w') : b.at w' := ⟨h.1.same k, h.2⟩
theorem flat_at' {α : Type} {f : α → List Value} {sz : Nat} : ∀ (l : List α), (∀ a ∈ l, (f a).length = sz) → ∀ (k : Nat) (a : α), l[k]? = some a → ∀ j u, (f a)[j]? = some u → (l.map f).flatten[k * sz + j]? = some u := by
  intro l
  induction l with
  | nil => intro _ k a h; simp at h
  | cons x l ih =>
    intro hf k a hk j u hj
    have hx := hf x (List.mem_cons_self ..)
    rw [List.map_cons, List.flatten_cons]
    rcases k with _ | k
    · simp at hk
      subst hk
      have hlt := (List.getElem?_eq_some_iff.1 hj).1
      rw [Nat.zero_mul, Nat.zero_add, List.getElem?_append_left hlt]
      exact hj
    · rw [List.getElem?_append_right (by rw [hx, Nat.add_mul]; omega), hx, show (k + 1) * sz + j - sz = k * sz + j from by rw [Nat.add_mul]; omega]
      exact ih (fun a ha => hf a (List.mem_cons_of_mem _ ha)) k a (by simpa using hk) j u hj
def reqAt (l : List Req) (i : Nat) : Req := l.getD i zeroReq
theorem reqAt_mem {l : List Req} {i : Nat} (h : i < l.length) : reqAt l i ∈ l := by
  unfold reqAt
  simp only [List.getD, List.getElem?_eq_getElem h, Option.getD_some]
  exact List.getElem_mem _
theorem reqAt_get {l : List Req} {i : Nat} (h : i < l.length) : l[i]? = some (reqAt l i) := by
  unfold reqAt
  simp only [List.getD, List.getElem?_eq_getElem h, Option.getD_some]
theorem BatV.range {w : World} {b : BatV} (h : b.at w) {i : Nat} (hi : i < b.reqs.length) : ∃ bk off, b.ao = some ⟨bk, off, none⟩ ∧ bk < w.heap.size ∧ w.rangeAt bk (off + i * 19) (reqAt b.reqs i).cells := by
  have hne : rv b.reqs ≠ [] := by
    intro h2
    have := h.1.len
    rw [h2] at this
    simp at this
    omega
  obtain ⟨bk, off, ha, hb, hc⟩ := h.1.at hne
  refine ⟨bk, off, ha, hb, ?_⟩
  intro j v hj
  rw [Nat.add_assoc]
  exact hc _ _ (flat_at' (f := Req.cells) (sz := 19) b.reqs (fun r hr => Req.cells_length (h.2 r hr).1.1) i _ (reqAt_get hi) j v hj)
theorem range_data {w : World} {b o : Nat} {r : Req} (h : w.rangeAt b o r.cells) : w.cell? ⟨b, o + 2, none⟩ = some (.string r.data) := h 2 _ rfl
theorem range_client {w : World} {b o : Nat} {r : Req} (h : w.rangeAt b o r.cells) : w.cell? ⟨b, o, none⟩ = some (.int .i64 r.client) := h 0 _ rfl
theorem range_num {w : World} {b o : Nat} {r : Req} (h : w.rangeAt b o r.cells) : w.cell? ⟨b, o + 1, none⟩ = some (.int .i64 r.num) := h 1 _ rfl
/-- Not more than is looked at. -/
def BatV.small (b : BatV) : Prop := b.reqs.length ≤ 200 ∧ ∀ r ∈ b.reqs, r.data.size ≤ 4000
def zeroBat : BatV := ⟨false, none, 0, []⟩
def batAt (l : List BatV) (i : Nat) : BatV := l.getD i zeroBat
theorem batAt_mem {l : List BatV} {i : Nat} (h : i < l.length) : batAt l i ∈ l := by
  unfold batAt
  simp only [List.getD, List.getElem?_eq_getElem h, Option.getD_some]
  exact List.getElem_mem _
theorem batAt_get {l : List BatV} {i : Nat} (h : i < l.length) : l[i]? = some (batAt l i) := by
  unfold batAt
  simp only [List.getD, List.getElem?_eq_getElem h, Option.getD_some]
theorem batAt_of_mem {l : List BatV} {b : BatV} (h : b ∈ l) : ∃ i, i < l.length ∧ batAt l i = b := by
  obtain ⟨i, hi, rfl⟩ := List.getElem_of_mem h
  exact ⟨i, hi, by simp [batAt, List.getD, hi]⟩
def bvs (l : List BatV) : List Value := (l.map BatV.cells).flatten
theorem addUp_le (n more most : Nat) : addUp n more most ≤ most + 1 := by unfold addUp; split <;> omega
theorem addUp_in {n more most : Nat} (h : addUp n more most ≤ most) : addUp n more most = n + more := by
  unfold addUp at *
  split at h
  · rename_i h2
    rw [if_pos h2]
  · omega
set_option maxRecDepth 100000 in
set_option maxHeartbeats 1600000 in
theorem light7_any (lo : Option Addr) (ln lc : Nat) (bs : List BatV) (w : World) (hsl : Sl w 2 lo ln lc (bvs bs)) (hbs : bs.length = ln) (hat : ∀ b ∈ bs, b.at w) :
    Calls Try.prog 15 #[.slice lo ln lc] w fun e w' => ∃ L, e = .returned (.bool L) ∧ (L = true → ∀ b ∈ bs, b.small) ∧ Same w w' := by
  have hadd := Lib.hid add_any
  have hcap := hsl.cap
  have hmost := hsl.most
  unfold maxLen at hmost
  replace hsl := Lib.hid hsl
  replace hat := Lib.hid hat
  replace hbs := Lib.hid hbs
  go_enter Try.func15, Try.ntmps15
  go_wp2
  go_loopw [3, 4] (fun n i wr => ∃ (k m : Nat), k ≤ ln ∧ i = .int .i64 k ∧ n = .int .i64 m ∧ m ≤ 4001 ∧ (m ≤ 4000 → ∀ j, j < k → (batAt bs j).small) ∧ Same w wr) (fun _ i _ => ln - (intOf i).toNat)
  case atStart => exact ⟨0, 0, by omega, rfl, rfl, by omega, fun _ j hj => by omega, Same.refl⟩
  case round =>
    obtain ⟨k, m, hk, rfl, rfl, hm, hsm, hs⟩ := hrel
    by_cases hlt : k < ln
    · by_cases hm4 : m ≤ 4000
      · have hb := hat.out (batAt bs k) (batAt_mem (by rw [hbs.out]; exact hlt))
        have hne : bvs bs ≠ [] := by
          intro h2
          have := hsl.out.len
          rw [h2] at this
          simp at this
          omega
        obtain ⟨lb, lof, rfl, _, hcell⟩ := hsl.out.at hne
        have ck : ∀ wy, Same w wy → wy.cell? ⟨lb, lof + k * 2 + 1, none⟩ = some (.slice (batAt bs k).ao (batAt bs k).reqs.length (batAt bs k).c) := by
          intro wy hy
          rw [Nat.add_assoc]
          exact hy.cell (hcell _ _ (flat_at' (f := BatV.cells) (sz := 2) bs (fun _ _ => rfl) k _ (batAt_get (by rw [hbs.out]; exact hlt)) 1 _ rfl))
        obtain ⟨B, hB⟩ : ∃ B, B = batAt bs k := ⟨_, rfl⟩
        rw [← hB] at hb ck
        obtain ⟨len, hlen⟩ : ∃ n, n = B.reqs.length := ⟨_, rfl⟩
        rw [← hlen] at ck
        have hl1 : len ≤ B.c := by rw [hlen]; exact hb.1.cap
        have hl2 := hb.1.most
        unfold maxLen at hl2
        have q0 : 0 ≤ (k : Int) := by omega
        have q1 : (k : Int) < (ln : Int) := by omega
        have hA := hadd.out m 5 4000
        have hle := addUp_le m 5 4000
        obtain ⟨m1, hm1⟩ : ∃ x, x = addUp m 5 4000 := ⟨_, rfl⟩
        rw [← hm1] at hA hle
        have hsm2 : m1 ≤ 4000 → ∀ j, j < k → (batAt bs j).small := fun _ => hsm hm4
        have hA2 := fun w => hA w (by omega) (by omega) (by omega)
        clear hcell hne hm1 hsm hA
        replace hB := Lib.hid hB
        replace hlen := Lib.hid hlen
        replace hb := Lib.hid hb
        replace ck := Lib.hid ck
        replace hs := Lib.hid hs
        replace hA2 := Lib.hid hA2
        replace hsm2 := Lib.hid hsm2
        go_wp2_with fail
        refine (hA2.out _).mono ?_
        rintro e w2 ⟨rfl, rfl⟩
        go_wp2
        go_loopw [3, 5] (fun n i wr' => ∃ (q m' : Nat), q ≤ len ∧ i = .int .i64 q ∧ n = .int .i64 m' ∧ m' ≤ 4001 ∧ (m' ≤ 4000 → m1 ≤ 4000 ∧ 20 * q ≤ m' ∧ ∀ j, j < q → (reqAt B.reqs j).data.size ≤ 4000) ∧ Same w wr') (fun _ i _ => len - (intOf i).toNat)
        case atStart => exact ⟨0, m1, by omega, rfl, rfl, by omega, fun h => ⟨h, by omega, fun j hj => by omega⟩, hs.out⟩
        case round =>
          obtain ⟨q, m', hq, rfl, rfl, hm', hin, hs2⟩ := hrel
          have cl := ck.out _ hs2
          by_cases hql : q < len
          · by_cases hm5 : m' ≤ 4000
            · obtain ⟨bk, off, hao, _, hrange⟩ := BatV.range (w := w) (b := B) hb.out (i := q) (by rw [← hlen.out]; exact hql)
              have cd := range_data (hs2.range hrange)
              rw [hao] at cl
              obtain ⟨i1, i2, i3⟩ := hin hm5
              have hds := (hb.out.2 _ (reqAt_mem (by rw [← hlen.out]; exact hql))).2
              obtain ⟨d, hd⟩ : ∃ d, d = (reqAt B.reqs q).data := ⟨_, rfl⟩
              rw [← hd] at cd hds
              have u0 : 0 ≤ (q : Int) := by omega
              have u1 : (q : Int) < (len : Int) := by omega
              have hA3 := fun w => hadd.out m' 20 4000 w (by omega) (by omega) (by omega)
              have hle3 := addUp_le m' 20 4000
              have hin3 := addUp_in (n := m') (more := 20) (most := 4000)
              obtain ⟨m3, hm3⟩ : ∃ x, x = addUp m' 20 4000 := ⟨_, rfl⟩
              rw [← hm3] at hA3 hle3 hin3
              have hA4 := fun w h => hadd.out m3 d.size 4000 w (by omega) h (by omega)
              have hle4 := addUp_le m3 d.size 4000
              have hin4 := addUp_in (n := m3) (more := d.size) (most := 4000)
              obtain ⟨m4, hm4'⟩ : ∃ x, x = addUp m3 d.size 4000 := ⟨_, rfl⟩
              rw [← hm4'] at hA4 hle4 hin4
              have hnew : m4 ≤ 4000 → m1 ≤ 4000 ∧ 20 * (q + 1) ≤ m4 ∧ ∀ j, j < q + 1 → (reqAt B.reqs j).data.size ≤ 4000 := by
                intro h
                have e4 := hin4 h
                have e3 := hin3 (by omega)
                refine ⟨i1, by omega, fun j hj => ?_⟩
                by_cases hjq : j < q
                · exact i3 j hjq
                · obtain rfl : j = q := by omega
                  rw [← hd]
                  omega
              clear hm3 hm4' i1 i2 i3 hin3 hin4 hin hrange
              replace hA3 := Lib.hid hA3
              replace hA4 := Lib.hid (fun w => hA4 w (by omega))
              replace hnew := Lib.hid hnew
              replace hd := Lib.hid hd
              replace hs2 := Lib.hid hs2
              replace cl := Lib.hid cl
              replace cd := Lib.hid cd
              have cl' := cl.out
              go_upto_region 9 with fail
              clear cl'
              refine wp_region_tails (by kernel_rfl) [(32, 0), (33, 1), (34, 2), (35, 3), (36, 4), (37, 5), (38, 6), (39, 7), (40, 8), (41, 9), (42, 10), (43, 11), (44, 12)] Same (Same _) [isV (.int .i64 (m' : Int)), isV (.int .i64 (m3 : Int)), isV (.slice (some ⟨lb, lof, none⟩) ln lc), isV (.int .i64 (k : Int)), isV (.pointer (some ⟨lb, lof + k * 2, none⟩)), isV (.pointer (some ⟨lb, lof + k * 2 + 1, none⟩)), isV (.slice (some ⟨bk, off, none⟩) len B.c), isV (.int .i64 (q : Int)), isV (.pointer (some ⟨bk, off + q * 19, none⟩)), isV (.pointer (some ⟨bk, off + q * 19 + 2, none⟩)), isV (.string d), isV (.int .i64 (d.size : Int)), isV (.int .i64 (m4 : Int))] Same.refl.drew (fun _ _ h k => h.trans k) (by simp [isV_stable, isB_stable, isAny_stable]) (by decide) (l := [_, _, _, _, _, _, _, _, _, _, _, _, _]) rfl (by decide) (by kernel_rfl) ?_ ?_
              · refine ⟨?_, ?_, ?_, ?_, ?_, ?_, ?_, ?_, ?_, ?_, ?_, ?_, ?_, trivial⟩
                all_goals (intro u wx hI hp; simp only [mkAct, List.foldl_cons, List.foldl_nil, List.setIfInBounds_toArray, List.set_cons_succ, List.set_cons_zero])
                · -- operation 0
                  go_wp2
                  refine stq_v rfl Same.refl ?_
                  first | (simp only [mkAct, List.foldl_cons, List.foldl_nil, List.setIfInBounds_toArray, List.set_cons_succ, List.set_cons_zero, upd, reduceIte, Nat.reduceEqDiff, Nat.reduceAdd, str]; done) | (simp [mkAct, upd, str, *]; done)
                · -- operation 1
                  obtain ⟨f0, -⟩ := hp
                  replace f0 : u 0 = (.int .i64 (m' : Int)) := f0
                  try simp only [f0, str]
                  go_wp2_with fail
                  refine (hA3.out _).mono ?_
                  rintro e w1 ⟨rfl, rfl⟩
                  go_wp2
                  refine stq_v rfl Same.refl ?_
                  first | (simp only [mkAct, List.foldl_cons, List.foldl_nil, List.setIfInBounds_toArray, List.set_cons_succ, List.set_cons_zero, upd, reduceIte, Nat.reduceEqDiff, Nat.reduceAdd, f0, str]; done) | (simp [mkAct, upd, f0, str, *]; done)
                · -- operation 2
                  go_wp2
                  refine stq_v rfl Same.refl ?_
                  first | (simp only [mkAct, List.foldl_cons, List.foldl_nil, List.setIfInBounds_toArray, List.set_cons_succ, List.set_cons_zero, upd, reduceIte, Nat.reduceEqDiff, Nat.reduceAdd, str]; done) | (simp [mkAct, upd, str, *]; done)
                · -- operation 3
                  go_wp2
                  refine stq_v rfl Same.refl ?_
                  first | (simp only [mkAct, List.foldl_cons, List.foldl_nil, List.setIfInBounds_toArray, List.set_cons_succ, List.set_cons_zero, upd, reduceIte, Nat.reduceEqDiff, Nat.reduceAdd, str]; done) | (simp [mkAct, upd, str, *]; done)
                · -- operation 4
                  obtain ⟨f2, f3, -⟩ := hp
                  replace f2 : u 2 = (.slice (some ⟨lb, lof, none⟩) ln lc) := f2
                  replace f3 : u 3 = (.int .i64 (k : Int)) := f3
                  try simp only [f2, f3, str]
                  go_wp2
                  refine stq_v rfl Same.refl ?_
                  first | (simp only [mkAct, List.foldl_cons, List.foldl_nil, List.setIfInBounds_toArray, List.set_cons_succ, List.set_cons_zero, upd, reduceIte, Nat.reduceEqDiff, Nat.reduceAdd, f2, f3, str]; done) | (simp [mkAct, upd, f2, f3, str, *]; done)
                · -- operation 5
                  obtain ⟨f4, -⟩ := hp
                  replace f4 : u 4 = (.pointer (some ⟨lb, lof + k * 2, none⟩)) := f4
                  try simp only [f4, str]
                  go_wp2
                  refine stq_v rfl Same.refl ?_
                  first | (simp only [mkAct, List.foldl_cons, List.foldl_nil, List.setIfInBounds_toArray, List.set_cons_succ, List.set_cons_zero, upd, reduceIte, Nat.reduceEqDiff, Nat.reduceAdd, f4, str]; done) | (simp [mkAct, upd, f4, str, *]; done)
                · -- operation 6
                  obtain ⟨f5, -⟩ := hp
                  replace f5 : u 5 = (.pointer (some ⟨lb, lof + k * 2 + 1, none⟩)) := f5
                  try simp only [f5, str]
                  have cl2 := hI.cell cl.out
                  go_wp2
                  refine stq_v rfl Same.refl ?_
                  first | (simp only [mkAct, List.foldl_cons, List.foldl_nil, List.setIfInBounds_toArray, List.set_cons_succ, List.set_cons_zero, upd, reduceIte, Nat.reduceEqDiff, Nat.reduceAdd, f5, str]; done) | (simp [mkAct, upd, f5, str, *]; done)
                · -- operation 7
                  go_wp2
                  refine stq_v rfl Same.refl ?_
                  first | (simp only [mkAct, List.foldl_cons, List.foldl_nil, List.setIfInBounds_toArray, List.set_cons_succ, List.set_cons_zero, upd, reduceIte, Nat.reduceEqDiff, Nat.reduceAdd, str]; done) | (simp [mkAct, upd, str, *]; done)
                · -- operation 8
                  obtain ⟨f6, f7, -⟩ := hp
                  replace f6 : u 6 = (.slice (some ⟨bk, off, none⟩) len B.c) := f6
                  replace f7 : u 7 = (.int .i64 (q : Int)) := f7
                  try simp only [f6, f7, str]
                  go_wp2
                  refine stq_v rfl Same.refl ?_
                  first | (simp only [mkAct, List.foldl_cons, List.foldl_nil, List.setIfInBounds_toArray, List.set_cons_succ, List.set_cons_zero, upd, reduceIte, Nat.reduceEqDiff, Nat.reduceAdd, f6, f7, str]; done) | (simp [mkAct, upd, f6, f7, str, *]; done)
                · -- operation 9
                  obtain ⟨f8, -⟩ := hp
                  replace f8 : u 8 = (.pointer (some ⟨bk, off + q * 19, none⟩)) := f8
                  try simp only [f8, str]
                  go_wp2
                  refine stq_v rfl Same.refl ?_
                  first | (simp only [mkAct, List.foldl_cons, List.foldl_nil, List.setIfInBounds_toArray, List.set_cons_succ, List.set_cons_zero, upd, reduceIte, Nat.reduceEqDiff, Nat.reduceAdd, f8, str]; done) | (simp [mkAct, upd, f8, str, *]; done)
                · -- operation 10
                  obtain ⟨f9, -⟩ := hp
                  replace f9 : u 9 = (.pointer (some ⟨bk, off + q * 19 + 2, none⟩)) := f9
                  try simp only [f9, str]
                  have cd2 := hI.cell cd.out
                  go_wp2
                  refine stq_v rfl Same.refl ?_
                  first | (simp only [mkAct, List.foldl_cons, List.foldl_nil, List.setIfInBounds_toArray, List.set_cons_succ, List.set_cons_zero, upd, reduceIte, Nat.reduceEqDiff, Nat.reduceAdd, f9, str]; done) | (simp [mkAct, upd, f9, str, *]; done)
                · -- operation 11
                  obtain ⟨f10, -⟩ := hp
                  replace f10 : u 10 = (.string d) := f10
                  try simp only [f10, str]
                  go_wp2
                  refine stq_v rfl Same.refl ?_
                  first | (simp only [mkAct, List.foldl_cons, List.foldl_nil, List.setIfInBounds_toArray, List.set_cons_succ, List.set_cons_zero, upd, reduceIte, Nat.reduceEqDiff, Nat.reduceAdd, f10, str]; done) | (simp [mkAct, upd, f10, str, *]; done)
                · -- operation 12
                  obtain ⟨f1, f11, -, -⟩ := hp
                  replace f1 : u 1 = (.int .i64 (m3 : Int)) := f1
                  replace f11 : u 11 = (.int .i64 (d.size : Int)) := f11
                  try simp only [f1, f11, str]
                  go_wp2_with fail
                  refine (hA4.out _).mono ?_
                  rintro e w1 ⟨rfl, rfl⟩
                  go_wp2
                  refine stq_v rfl Same.refl ?_
                  first | (simp only [mkAct, List.foldl_cons, List.foldl_nil, List.setIfInBounds_toArray, List.set_cons_succ, List.set_cons_zero, upd, reduceIte, Nat.reduceEqDiff, Nat.reduceAdd, f1, f11, str]; done) | (simp [mkAct, upd, f1, f11, str, *]; done)
              · intro u wx hI hR
                obtain ⟨r0, r1, r2, r3, r4, r5, r6, r7, r8, r9, r10, r11, r12, -⟩ := hR
                replace r0 : u 0 = (.int .i64 (m' : Int)) := r0
                replace r1 : u 1 = (.int .i64 (m3 : Int)) := r1
                replace r2 : u 2 = (.slice (some ⟨lb, lof, none⟩) ln lc) := r2
                replace r3 : u 3 = (.int .i64 (k : Int)) := r3
                replace r4 : u 4 = (.pointer (some ⟨lb, lof + k * 2, none⟩)) := r4
                replace r5 : u 5 = (.pointer (some ⟨lb, lof + k * 2 + 1, none⟩)) := r5
                replace r6 : u 6 = (.slice (some ⟨bk, off, none⟩) len B.c) := r6
                replace r7 : u 7 = (.int .i64 (q : Int)) := r7
                replace r8 : u 8 = (.pointer (some ⟨bk, off + q * 19, none⟩)) := r8
                replace r9 : u 9 = (.pointer (some ⟨bk, off + q * 19 + 2, none⟩)) := r9
                replace r10 : u 10 = (.string d) := r10
                replace r11 : u 11 = (.int .i64 (d.size : Int)) := r11
                replace r12 : u 12 = (.int .i64 (m4 : Int)) := r12
                simp only [mkAct, List.foldl_cons, List.foldl_nil, List.setIfInBounds_toArray, List.set_cons_succ, List.set_cons_zero]
                try simp only [str, r0, r1, r2, r3, r4, r5, r6, r7, r8, r9, r10, r11, r12]
                go_wp2
                go_roundw
                case rel => exact ⟨q + 1, m4, by omega, by go_num, rfl, by omega, hnew.out, hs2.out.trans hI⟩
                case measure => simp [intOf]; omega
            · have hd4 : decide ((m' : Int) ≤ 4000) = false := decide_eq_false (by omega)
              have u0 : 0 ≤ (q : Int) := by omega
              have u1 : (q : Int) < (len : Int) := by omega
              clear hin
              replace hs2 := Lib.hid hs2
              go_wp2
              go_roundw
              case rel => exact ⟨k + 1, m', by omega, by go_num, rfl, hm', fun h => by omega, hs2.out⟩
              case measure => simp [intOf]; omega
          · obtain rfl : q = len := by omega
            have hnew : m' ≤ 4000 → ∀ j, j < k + 1 → (batAt bs j).small := by
              intro h j hj
              obtain ⟨i1, i2, i3⟩ := hin h
              by_cases hjk : j < k
              · exact hsm2.out i1 j hjk
              · obtain rfl : j = k := by omega
                rw [← hB.out]
                refine ⟨by rw [← hlen.out]; omega, fun r hr => ?_⟩
                obtain ⟨x, hx, rfl⟩ := List.getElem_of_mem hr
                have := i3 x (by rw [hlen.out]; exact hx)
                simpa [reqAt, List.getD, hx] using this
            clear hin
            replace hs2 := Lib.hid hs2
            replace hnew := Lib.hid hnew
            go_wp2
            go_roundw
            case rel => exact ⟨k + 1, m', by omega, by go_num, rfl, hm', hnew.out, hs2.out⟩
            case measure => simp [intOf]; omega
      · have hd4 : decide ((m : Int) ≤ 4000) = false := decide_eq_false (by omega)
        clear hsm
        replace hs := Lib.hid hs
        go_wp2
        go_ret
        exact ⟨false, rfl, by simp, hs.out⟩
    · obtain rfl : k = ln := by omega
      have hfin : m ≤ 4000 → ∀ b ∈ bs, b.small := by
        intro h b hb
        obtain ⟨i, hi, rfl⟩ := batAt_of_mem hb
        exact hsm h i (by rw [← hbs.out]; exact hi)
      clear hsm
      replace hs := Lib.hid hs
      replace hfin := Lib.hid hfin
      go_wp2
      go_ret
      exact ⟨decide ((m : Int) ≤ 4000), rfl, fun h => hfin.out (by have := of_decide_eq_true h; omega), hs.out⟩
end Go.Proofs.Ytmacgmmjgdmleaa
