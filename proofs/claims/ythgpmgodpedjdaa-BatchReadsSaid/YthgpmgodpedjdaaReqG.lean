/-
  Requests: how one is read, by both; what was put is read as it was.
-/
import Derived.Test.YthgpmgodpedjdaaReqP
import Derived.Test.YthgpmgodpedjdaaRRd
import Derived.Test.YthgpmgodpedjdaaSha5
namespace Go.Proofs.Ythgpmgodpedjdaa
open Go Go.RowKit
set_option linter.unusedSimpArgs false
set_option linter.unusedVariables false

theorem rNum_le' (s : List UInt8 × Nat) (m : Int) : (Num.rNum s m).2.1.length ≤ s.1.length := by
  unfold Num.rNum
  split
  · exact Nat.le_refl _
  · split
    rename_i n size e _
    split
    · simp
    · split
      · simp
      · simp
theorem rText_le' (s : List UInt8 × Nat) (m : Int) : (Num.rText s m).2.1.length ≤ s.1.length := by
  unfold Num.rText
  split
  · exact Nat.le_refl _
  · split
    rename_i n size e _
    split
    · simp
    · split
      · simp
      · split
        · simp
        · simp
theorem rRaw_le' (s : List UInt8 × Nat) (m : Int) : (Num.rRaw s m).2.1.length ≤ s.1.length := by
  unfold Num.rRaw
  split
  · exact Nat.le_refl _
  · split
    · simp
    · split
      · simp
      · simp
theorem rRaw16 (s : List UInt8 × Nat) : (Num.rRaw s 16).1.length = 16 ∧ (Num.rRaw s 16).2.2 = 0 ∨ (Num.rRaw s 16).1 = [] ∧ (Num.rRaw s 16).2.2 ≠ 0 := by
  unfold Num.rRaw
  split
  · rename_i h
    exact .inr ⟨rfl, h⟩
  · split
    · exact .inr ⟨rfl, by simp⟩
    · split
      · exact .inr ⟨rfl, by simp⟩
      · rename_i h1 h2 h3
        left
        simp
        omega
/-- What is read, and what is left. -/
def reqGet (s : List UInt8 × Nat) : Req × (List UInt8 × Nat) :=
  let a := Num.rNum s 8
  let b := Num.rNum a.2 1099511627776
  let t := Num.rText b.2 64
  let x := Num.rRaw t.2 16
  (if x.1.length < 16 then zeroReq else ⟨a.1, b.1, ⟨t.1.toArray⟩, x.1⟩, x.2)
theorem reqGet_le (s : List UInt8 × Nat) : (reqGet s).2.1.length ≤ s.1.length := by
  unfold reqGet
  simp only
  exact Nat.le_trans (rRaw_le' _ _) (Nat.le_trans (rText_le' _ _) (Nat.le_trans (rNum_le' _ _) (rNum_le' _ _)))
theorem reqGet_tag (s : List UInt8 × Nat) : (reqGet s).1.tag.length = 16 := by
  unfold reqGet
  simp only
  split
  · rfl
  · rcases rRaw16 (Num.rText (Num.rNum (Num.rNum s 8).2 1099511627776).2 64).2 with h | h
    · exact h.1
    · rename_i h2
      rw [h.1] at h2
      simp at h2
theorem mk_client (c n x : Int) (d : ByteArray) (t : List UInt8) : (Req.mk c n d t).cells.toArray.setIfInBounds 0 (.int .i64 x) = (Req.mk x n d t).cells.toArray := by simp [Req.cells]
theorem mk_num (c n x : Int) (d : ByteArray) (t : List UInt8) : (Req.mk c n d t).cells.toArray.setIfInBounds 1 (.int .i64 x) = (Req.mk c x d t).cells.toArray := by simp [Req.cells]
theorem mk_data (c n : Int) (d x : ByteArray) (t : List UInt8) : (Req.mk c n d t).cells.toArray.setIfInBounds 2 (.string x) = (Req.mk c n x t).cells.toArray := by simp [Req.cells]
theorem mk_tag (c n : Int) (d : ByteArray) (t : List UInt8) (k : Nat) (b : UInt8) : (Req.mk c n d t).cells.toArray.setIfInBounds (3 + k) (.int .u8 (b.toNat : Int)) = (Req.mk c n d (t.set k b)).cells.toArray := by
  simp only [Req.cells, List.setIfInBounds_toArray]
  congr 1
  rw [List.set_append_right _ _ (by simp)]
  simp [bv, List.map_set]
section
variable {P : Program} {ops : Array Oper} {rest : List Oper} {o : Oper} {a : Act} {Q : Exit → Act → World → Prop} {t e : TypeId} {z : Value} {sz by_ : Nat}
/-- 'copy(row[off:], s)', all of s, whatever s. -/
theorem copy_at {W : World} (hg : Region.wanted o (yielded ops a.tmps) = true) (d s : Operand) (dT sT : TypeId)
    (ho : o.op = .call { callee := .builtin .copy, args := #[d, s], argTypes := #[dT, sT] }) (hu : P.underlying dT = some (.slice e)) (hsz : (P.info? e).map (·.size) = some 1)
    (g off dLen dCap : Nat) (ao : Option Addr) (sLen sCap : Nat) (hd : a.eval d = .slice (some ⟨g, off, none⟩) dLen dCap) (hs : a.eval s = .slice ao sLen sCap)
    (cur : Array Value) (T : TypeId) (hb : W.heap[g]? = some (.cells cur T (0, 0))) (cs : List Value) (hsl : Sl W 1 ao sLen sCap cs) (hle : sLen ≤ dLen) (hfit : off + dLen ≤ cur.size) (h1 : ∀ v ∈ cs, v.oneCell' = true)
    (h : ∀ w', w'.heap[g]? = some (.cells (cur.toList.take off ++ (cs ++ cur.toList.drop (off + cs.length))).toArray T (0, 0)) → Keep (· = g) W w' → wpList P ops Q rest (a.put o.dst (goInt cs.length)) w') : wpList P ops Q (o :: rest) a W := by
  have hlen : cs.length = sLen := by have := hsl.len; omega
  rcases ao with _ | ad
  · have h0 := hsl.nil rfl
    have h2 := hsl.cap
    obtain rfl : sLen = 0 := by omega
    obtain rfl : cs = [] := List.eq_nil_of_length_eq_zero hlen
    refine wpL hg fun K hK => ?_
    obtain ⟨i, hi, hi1⟩ : ∃ i, P.info? e = some i ∧ i.size = 1 := by
      cases hx : P.info? e with
      | none => rw [hx] at hsz; cases hsz
      | some i => rw [hx] at hsz; exact ⟨i, rfl, by simpa using hsz⟩
    have hrun : (Builtin.copy_ #[dT, sT] o.type #[.slice (some ⟨g, off, none⟩) dLen dCap, .slice none 0 sCap]).run P W = .ok (goInt 0) W := by
      simp [Builtin.copy_, Builtin.lenOf, Builtin.firstCells, run_underlying hu, Sem.run_bind, Result.andThen, sizeOf, typeInfo, hi, hi1, storeCells]
    unfold Oper.wp
    simp [execOp, ho, resolve, invoke, builtin, hd, hs, hrun, Result.andThen]
    exact hK _ _ (h W (by simpa using hb) Keep.refl)
  · refine copy_row hg d s dT sT ho hu hsz g off dLen dCap ad sLen sCap hd hs cur T hb cs (by rw [hlen]; exact (Nat.min_eq_left hle).symm) (fun j v hj => hsl.cell ad rfl j v hj) (by omega) h1 ?_
    intro w' hb' hk'
    exact h w' hb' hk'
end
def RetGet (w : World) (rb db : Nat) (x : Req × (List UInt8 × Nat)) (e : Ending) (w' : World) : Prop := e = .returned (.agg x.1.cells.toArray) ∧ Rdr w' rb db x.2 ∧ Keep (· = rb) w w'
def RRetGet (w : World) (rb db : Nat) (x : Req × (List UInt8 × Nat)) (e : Ending) (w' : World) : Prop := e = .returned (.agg x.1.cells.toArray) ∧ RRdr w' rb db x.2 ∧ Keep (· = rb) w w'
def isRaw (rb db : Nat) (l : List UInt8) (s : List UInt8 × Nat) : Value → World → Prop := fun v w => ∃ ao c, v = .slice ao l.length c ∧ Sl w 1 ao l.length c (bv l) ∧ Rdr w rb db s
theorem isRaw_stable (rb db : Nat) (l : List UInt8) (s : List UInt8 × Nat) : Stable Same (isRaw rb db l s) := fun _ _ _ k ⟨ao, c, h, h1, h2⟩ => ⟨ao, c, h, h1.same k, h2.same k⟩
def isCopied (rb db b : Nat) (n : Nat) (cs : List Value) (T : TypeId) (s : List UInt8 × Nat) : Value → World → Prop := fun v w => v = .int .i64 (n : Int) ∧ Rdr w rb db s ∧ w.heap[b]? = some (.cells cs.toArray T (0, 0))
theorem isCopied_stable (rb db b n : Nat) (cs : List Value) (T : TypeId) (s : List UInt8 × Nat) : Stable Same (isCopied rb db b n cs T s) := fun _ _ _ k ⟨h, h1, h2⟩ => ⟨h, h1.same k, k.at h2⟩
/-- One cell of the new request is stored: where the walk stands then. -/
theorem get_step {w1 w2 : World} {b j : Nat} {v : Value} {old new : Array Value} {T rb db : Nat} {s : List UInt8 × Nat} {base : Nat} (hb : w1.heap[b]? = some (.cells old T (0, 0))) (hs : old.setIfInBounds j v = new) (hr : Rdr w1 rb db s) (h1 : b ≠ rb) (h2 : b ≠ db) (hbase : base ≤ b) (h : w2 = w1.setCell ⟨b, j, none⟩ v) :
    w2.heap[b]? = some (.cells new T (0, 0)) ∧ Rdr w2 rb db s ∧ Keep (· = b) w1 w2 := by
  subst h
  have hk : Keep (· = b) w1 (w1.setCell ⟨b, j, none⟩ v) := Keep.setCell (p := (· = b)) _ rfl
  exact ⟨by rw [blk_set hb, hs], hr.keep hk (fun h => h1 h.symm) (fun h => h2 h.symm), hk⟩
theorem rget_step {w1 w2 : World} {b j : Nat} {v : Value} {old new : Array Value} {T rb db : Nat} {s : List UInt8 × Nat} {base : Nat} (hb : w1.heap[b]? = some (.cells old T (0, 0))) (hs : old.setIfInBounds j v = new) (hr : RRdr w1 rb db s) (h1 : b ≠ rb) (h2 : b ≠ db) (hbase : base ≤ b) (h : w2 = w1.setCell ⟨b, j, none⟩ v) :
    w2.heap[b]? = some (.cells new T (0, 0)) ∧ RRdr w2 rb db s ∧ Keep (· = b) w1 w2 := by
  subst h
  have hk : Keep (· = b) w1 (w1.setCell ⟨b, j, none⟩ v) := Keep.setCell (p := (· = b)) _ rfl
  exact ⟨by rw [blk_set hb, hs], hr.keep hk (fun h => h1 h.symm) (fun h => h2 h.symm), hk⟩
set_option maxRecDepth 100000 in
set_option maxHeartbeats 1600000 in
theorem rqget_any (rb db : Nat) (s : List UInt8 × Nat) (w : World) (h : Rdr w rb db s) (hl : s.1.length ≤ 140737488000000) :
    Calls Try.prog 68 #[.pointer (some ⟨rb, 0, none⟩)] w (RetGet w rb db (reqGet s)) := by
  unfold reqGet
  simp only
  have k1 := rNum_le' s 8
  obtain ⟨A, hA⟩ : ∃ A, A = Num.rNum s 8 := ⟨_, rfl⟩
  rw [← hA] at k1 ⊢
  have k2 := rNum_le' A.2 1099511627776
  obtain ⟨B, hB⟩ : ∃ B, B = Num.rNum A.2 1099511627776 := ⟨_, rfl⟩
  rw [← hB] at k2 ⊢
  have k3 := rText_le' B.2 64
  obtain ⟨C, hC⟩ : ∃ C, C = Num.rText B.2 64 := ⟨_, rfl⟩
  rw [← hC] at k3 ⊢
  have k4 := rRaw16 C.2
  obtain ⟨X, hX⟩ : ∃ X, X = Num.rRaw C.2 16 := ⟨_, rfl⟩
  rw [← hX] at k4 ⊢
  obtain ⟨an, sa⟩ := A
  obtain ⟨bn, sb⟩ := B
  obtain ⟨cl, sc⟩ := C
  obtain ⟨xl, sx⟩ := X
  simp only at k1 k2 k3 k4 hA hB hC hX ⊢
  have hq1 := fun w h => num_any rb db s 8 w h
  have hq2 := fun w h => num_any rb db sa 1099511627776 w h
  have hq3 := fun w h => text_any rb db sb 64 w h
  have hq4 := fun w h => raw_any rb db sc 16 w h (by omega)
  rw [← hA] at hq1
  rw [← hB] at hq2
  rw [← hC] at hq3
  rw [← hX] at hq4
  unfold RetNum at hq1 hq2
  unfold RetText at hq3
  unfold RetRaw at hq4
  simp only at hq1 hq2 hq3 hq4
  obtain ⟨l1, l2, l3⟩ := h.lt
  obtain ⟨b2, hb2⟩ : ∃ b, b = w.heap.size := ⟨_, rfl⟩
  have n1 : b2 ≠ rb := by omega
  have n2 : b2 ≠ db := by omega
  have n3 : ¬ rb = b2 := by omega
  have n4 : ¬ db = b2 := by omega
  have e1 := mk_client 0 0 an ByteArray.empty noTag
  have e2 := mk_num an 0 bn ByteArray.empty noTag
  have e3 := mk_data an bn ByteArray.empty ⟨cl.toArray⟩ noTag
  have hxl : xl.length ≤ 16 := by
    rcases k4 with k | k
    · omega
    · rw [k.1]; simp
  have hinfZ := Lib.hid (req_info zeroReq_tag)
  obtain ⟨R, hR⟩ : ∃ R, R = (if xl.length < 16 then zeroReq else (⟨an, bn, ⟨cl.toArray⟩, xl⟩ : Req)) := ⟨_, rfl⟩
  rw [← hR]
  clear hA hB hC hX k1 k2 k3 hl
  replace hR := Lib.hid hR
  replace h := Lib.hid h
  replace hq1 := Lib.hid hq1
  replace hq2 := Lib.hid hq2
  replace hq3 := Lib.hid hq3
  replace hq4 := Lib.hid hq4
  replace k4 := Lib.hid k4
  replace hb2 := Lib.hid hb2
  replace e1 := Lib.hid e1
  replace e2 := Lib.hid e2
  replace e3 := Lib.hid e3
  go_enter Try.func68, Try.ntmps68
  go_upto_region 1 with (refine alloc_new rfl 44 rfl zeroReq.cells.toArray (by kernel_rfl) ?_; intro w1 hd hs1)
  rw [← hb2.out] at hd ⊢
  have hr1 := Lib.hid (h.out.same hs1)
  have hk1 := Lib.hid (Keep.of_same (p := (· = rb)) hs1)
  have hz1 := hs1.size
  rw [← hb2.out] at hz1
  have hb1l := blk_lt hd
  replace hd := Lib.hid hd
  clear hs1 h
  go_wp2_with fail
  refine (hq1.out _ hr1.out).mono ?_
  rintro e w2 ⟨rfl, hr2, hk2⟩
  have hd2 := (hk2.block _ hb1l n1).trans hd.out
  have c0 : w2.cell? ⟨b2, 0, none⟩ = some (.int .i64 0) := by rw [blk_cell hd2]; rfl
  have fz := blk_frozen hd2 0
  have hz2 := hk2.size
  have hk02 := Lib.hid (hk1.out.trans hk2 (fun _ _ h => h))
  clear hk2 hr1 hk1 hd
  replace hd2 := Lib.hid hd2
  replace hr2 := Lib.hid hr2
  go_upto_region 2 with fail
  obtain ⟨w3, hw3⟩ : ∃ x, x = w2.setCell ⟨b2, 0, none⟩ (.int .i64 (an : Int)) := ⟨_, rfl⟩
  rw [← hw3]
  obtain ⟨hd3, hr3, hk3⟩ := get_step hd2.out e1.out hr2.out n1 n2 (Nat.le_refl _) hw3
  have hk03 := Lib.hid (hk02.out.trans hk3 (fun x hx hv => by have := hb2.out; omega))
  have hb3l := blk_lt hd3
  clear hw3 c0 fz hd2 hr2 hk02 hk3
  replace hd3 := Lib.hid hd3
  replace hr3 := Lib.hid hr3
  go_wp2_with fail
  refine (hq2.out _ hr3.out).mono ?_
  rintro e w4 ⟨rfl, hr4, hk4⟩
  have hd4 := (hk4.block _ hb3l n1).trans hd3.out
  have c1 : w4.cell? ⟨b2, 1, none⟩ = some (.int .i64 0) := by rw [blk_cell hd4]; rfl
  have fz := blk_frozen hd4 1
  have hk04 := Lib.hid (hk03.out.trans hk4 (fun _ _ h => h))
  clear hk4 hr3 hk03 hd3
  replace hd4 := Lib.hid hd4
  replace hr4 := Lib.hid hr4
  go_upto_region 3 with fail
  obtain ⟨w5, hw5⟩ : ∃ x, x = w4.setCell ⟨b2, 1, none⟩ (.int .i64 (bn : Int)) := ⟨_, rfl⟩
  rw [← hw5]
  obtain ⟨hd5, hr5, hk5⟩ := get_step hd4.out e2.out hr4.out n1 n2 (Nat.le_refl _) hw5
  have hk05 := Lib.hid (hk04.out.trans hk5 (fun x hx hv => by have := hb2.out; omega))
  have hb5l := blk_lt hd5
  clear hw5 c1 fz hd4 hr4 hk04 hk5
  replace hd5 := Lib.hid hd5
  replace hr5 := Lib.hid hr5
  go_wp2_with fail
  refine (hq3.out _ hr5.out).mono ?_
  rintro e w6 ⟨rfl, hr6, hk6⟩
  have hd6 := (hk6.block _ hb5l n1).trans hd5.out
  have c2 : w6.cell? ⟨b2, 2, none⟩ = some (.string ByteArray.empty) := by rw [blk_cell hd6]; rfl
  have fz := blk_frozen hd6 2
  have hk06 := Lib.hid (hk05.out.trans hk6 (fun _ _ h => h))
  clear hk6 hr5 hk05 hd5
  replace hd6 := Lib.hid hd6
  replace hr6 := Lib.hid hr6
  go_upto_region 4 with fail
  obtain ⟨w7, hw7⟩ : ∃ x, x = w6.setCell ⟨b2, 2, none⟩ (.string ⟨cl.toArray⟩) := ⟨_, rfl⟩
  rw [← hw7]
  obtain ⟨hd7, hr7, hk7⟩ := get_step hd6.out e3.out hr6.out n1 n2 (Nat.le_refl _) hw7
  have hk07 := Lib.hid (hk06.out.trans hk7 (fun x hx hv => by have := hb2.out; omega))
  clear hw7 c2 fz hd6 hr6 hk06 hk7
  obtain ⟨C7, hC7⟩ : ∃ C, C = (Req.mk an bn ⟨cl.toArray⟩ noTag).cells := ⟨_, rfl⟩
  have hC7l : C7.length = 19 := by rw [hC7]; rfl
  rw [← hC7] at hd7
  obtain ⟨C8, hC8⟩ : ∃ C, C = C7.take 3 ++ (bv xl ++ C7.drop (3 + (bv xl).length)) := ⟨_, rfl⟩
  have hC8l : C8.length = 19 := by rw [hC8]; simp [bv_length, hC7l]; omega
  have hb7l := blk_lt hd7
  replace hd7 := Lib.hid hd7
  replace hr7 := Lib.hid hr7
  replace hC7 := Lib.hid hC7
  replace hC8 := Lib.hid hC8
  refine wp_region_mut (by kernel_rfl) [(12, 0), (13, 1), (14, 2), (15, 3), (16, 4), (17, 5)] [(3, (Keep (fun x => x = rb))), (4, (Keep (fun x => x = b2)))] [(3, [3, 4]), (4, [3, 4]), (1000, [3, 4]), (1001, [4])] [0, 1, 2, 4, 5] [[], [0], [], [2, 1000], [1, 3, 1001], [4]] Same (Keep (fun x => x = rb ∨ x = b2) w7) [(fun w => Rdr w rb db sc), (fun w => w.heap[b2]? = some (.cells C7.toArray 44 (0, 0)))] [isV (.pointer (some ⟨b2, 3, none⟩)), isV (.slice (some ⟨b2, 3, none⟩) 16 16), isV (.pointer (some ⟨rb, 0, none⟩)), isRaw rb db xl sx, isCopied rb db b2 xl.length C8 44 sx, isV (.bool (decide ((xl.length : Int) < 16)))] (Keep.drew) (by intro g hg; simp only [List.mem_cons, List.not_mem_nil, or_false] at hg; rcases hg with rfl | rfl; exact (hr7.out.same Same.refl.drew); exact hd7.out) (fun _ _ h k => h.trans (Keep.of_same (p := fun _ => False) k) (fun _ _ h => h.elim)) (by intro g hg; simp only [List.mem_cons, List.not_mem_nil, or_false] at hg; rcases hg with rfl | rfl; exact (fun _ _ h k => h.trans k (fun x _ hx => .inl hx)); exact (fun _ _ h k => h.trans k (fun x _ hx => .inr hx))) (by simp [isV_stable, isB_stable, isAny_stable, isRaw_stable, isCopied_stable]) (by intro g hg; simp only [List.mem_cons, List.not_mem_nil, or_false] at hg; rcases hg with rfl | rfl; exact (fun _ _ k h => h.same k); exact (fun _ _ k h => k.at h)) (by simp [killsOf, List.zipIdx_cons, isV_stable, isAny_stable]) (by simp [killsOf, List.zipIdx_cons]; exact fun _ _ k h => (k.block _ (blk_lt h) n1).trans h) (by decide) (l := [_, _, _, _, _, _]) rfl (by decide) (by kernel_rfl) (by kernel_rfl) (by kernel_rfl) (by decide) ?_ ?_
  · refine ⟨?_, ?_, ?_, ?_, ?_, ?_, trivial⟩
    all_goals (intro u wx hI hp; simp only [mkAct, List.foldl_cons, List.foldl_nil, List.setIfInBounds_toArray, List.set_cons_succ, List.set_cons_zero])
    · -- operation 0
      go_wp2
      refine stg_v (x := (.pointer (some ⟨b2, 3, none⟩))) rfl Same.refl ?_
      first | (simp only [mkAct, List.foldl_cons, List.foldl_nil, List.setIfInBounds_toArray, List.set_cons_succ, List.set_cons_zero, upd, reduceIte, Nat.reduceEqDiff, Nat.reduceAdd, str]; done) | (simp [mkAct, upd, str, *]; done)
    · -- operation 1
      obtain ⟨f0, -⟩ := hp
      replace f0 : u 0 = (.pointer (some ⟨b2, 3, none⟩)) := f0
      try simp only [f0, str]
      go_wp2
      refine stg_v (x := (.slice (some ⟨b2, 3, none⟩) 16 16)) rfl Same.refl ?_
      first | (simp only [mkAct, List.foldl_cons, List.foldl_nil, List.setIfInBounds_toArray, List.set_cons_succ, List.set_cons_zero, upd, reduceIte, Nat.reduceEqDiff, Nat.reduceAdd, f0, str]; done) | (simp [mkAct, upd, f0, str, *]; done)
    · -- operation 2
      go_wp2
      refine stg_v (x := (.pointer (some ⟨rb, 0, none⟩))) rfl Same.refl ?_
      first | (simp only [mkAct, List.foldl_cons, List.foldl_nil, List.setIfInBounds_toArray, List.set_cons_succ, List.set_cons_zero, upd, reduceIte, Nat.reduceEqDiff, Nat.reduceAdd, str]; done) | (simp [mkAct, upd, str, *]; done)
    · -- operation 3
      obtain ⟨f2, fG0, -⟩ := hp
      replace f2 : u 2 = (.pointer (some ⟨rb, 0, none⟩)) := f2
      try simp only [f2, str]
      have fG := Lib.hid fG0
      go_wp2_with fail
      refine (hq4.out _ fG.out).mono ?_
      rintro e w8 ⟨v, rfl, ho, hr8, hk8⟩
      obtain ⟨ao, c, rfl, hsl⟩ := ho.sl
      go_wp2
      refine stg_v (x := (.slice ao xl.length c)) ⟨ao, c, rfl, hsl, hr8⟩ hk8 ?_
      first | (simp only [mkAct, List.foldl_cons, List.foldl_nil, List.setIfInBounds_toArray, List.set_cons_succ, List.set_cons_zero, upd, reduceIte, Nat.reduceEqDiff, Nat.reduceAdd, f2, str]; done) | (simp [mkAct, upd, f2, str, *]; done)
    · -- operation 4
      obtain ⟨f1, f3, fG1, -⟩ := hp
      replace f1 : u 1 = (.slice (some ⟨b2, 3, none⟩) 16 16) := f1
      try simp only [f1, str]
      obtain ⟨ao, c, f3, hsl, hr8⟩ := f3
      try simp only [f3]
      have fG := Lib.hid fG1
      replace hsl := Lib.hid hsl
      replace hr8 := Lib.hid hr8
      go_wp2_with (refine copy_at rfl _ _ _ _ rfl byT.under (by kernel_rfl) b2 3 16 16 ao xl.length c rfl rfl _ _ fG.out (bv xl) hsl.out hxl (by simp [hC7l]) bv_cell ?_; intro w9 hb9 hk9)
      refine stg_v (x := .int .i64 (xl.length : Int)) ⟨rfl, hr8.out.keep hk9 n3 n4, by rw [hC8.out]; exact hb9⟩ hk9 ?_
      simp [mkAct, upd, f3, f1, bv_length]
    · -- operation 5
      obtain ⟨f4, -⟩ := hp
      obtain ⟨f4, -, -⟩ := f4
      try simp only [f4]
      go_wp2
      refine stg_v (x := .bool (decide ((xl.length : Int) < 16))) rfl Same.refl ?_
      simp [mkAct, upd, f4]
  · intro u wx hI hR
    obtain ⟨r0, r1, r2, r4, r5, -⟩ := hR
    replace r0 : u 0 = (.pointer (some ⟨b2, 3, none⟩)) := r0
    replace r1 : u 1 = (.slice (some ⟨b2, 3, none⟩) 16 16) := r1
    replace r2 : u 2 = (.pointer (some ⟨rb, 0, none⟩)) := r2
    replace r5 : u 5 = (.bool (decide ((xl.length : Int) < 16))) := r5
    simp only [mkAct, List.foldl_cons, List.foldl_nil, List.setIfInBounds_toArray, List.set_cons_succ, List.set_cons_zero]
    try simp only [str, r0, r1, r2, r5]
    obtain ⟨r4, hr8, hd8⟩ := r4
    try simp only [r4]
    have hk08 : Keep (fun x => x = rb) w wx := hk07.out.trans hI (fun x hx hv => by
      have := hb2.out
      rcases hv with hv | hv
      · exact hv
      · omega)
    have hRR := hR.out
    clear r0 r1 r2 r4 r5 hI hd7 hr7 hk07
    by_cases hx : xl.length < 16
    · have hx2 : (xl.length : Int) < 16 := by omega
      rw [if_pos hx] at hRR
      have hC8s : C8.toArray.size = zeroReq.cells.toArray.size := by rw [List.size_toArray, hC8l]; rfl
      clear hR hx
      replace hRR := Lib.hid hRR
      replace hC8s := Lib.hid hC8s
      replace hk08 := Lib.hid hk08
      replace hd8 := Lib.hid hd8
      replace hr8 := Lib.hid hr8
      go_wp2_with (first | (refine build_const (ty := 44) (.agg zeroReq.cells.toArray) rfl rfl (by kernel_rfl) ?_) | (refine store_row rfl _ _ _ rfl b2 _ rfl rfl _ _ hd8.out hinfZ.out hC8s.out (req_one _) ?_; intro w9 hd9 hk9; replace hd9 := Lib.hid hd9; replace hk9 := Lib.hid hk9))
      refine bodyPost_ret (v := .agg zeroReq.cells.toArray) (results_row (p := 2) (ty := 44) rfl _ _ b2 _ _ _ _ rfl hd9.out Try.underlying44 rfl hinfZ.out) rfl ?_
      exact ⟨by rw [hRR.out], hr8.out.keep hk9.out n3 n4, hk08.out.trans hk9.out (fun x hx hv => by have := hb2.out; omega)⟩
    · have hx2 : ¬ ((xl.length : Int) < 16) := by omega
      rw [if_neg hx] at hRR
      have hx16 : xl.length = 16 := by omega
      have hC8e : C8 = (Req.mk an bn ⟨cl.toArray⟩ xl).cells := by
        rw [hC8.out, hC7.out, List.drop_of_length_le (by rw [bv_length, hx16]; exact Nat.le_refl _), List.append_nil]
        rfl
      have hinfR := Lib.hid (req_info (r := Req.mk an bn ⟨cl.toArray⟩ xl) hx16)
      rw [hC8e] at hd8
      clear hR hx hC8e
      replace hRR := Lib.hid hRR
      replace hk08 := Lib.hid hk08
      replace hd8 := Lib.hid hd8
      replace hr8 := Lib.hid hr8
      go_wp2_with (first | (refine load_row rfl _ _ rfl b2 rfl _ _ _ _ hd8.out Try.underlying44 rfl hinfR.out ?_) | (refine store_row rfl _ _ _ rfl b2 _ rfl rfl _ _ hd8.out hinfR.out rfl (req_one _) ?_; intro w9 hd9 hk9; replace hd9 := Lib.hid hd9; replace hk9 := Lib.hid hk9))
      refine bodyPost_ret (v := .agg (Req.mk an bn ⟨cl.toArray⟩ xl).cells.toArray) (results_row (p := 2) (ty := 44) rfl _ _ b2 _ _ _ _ rfl hd9.out Try.underlying44 rfl hinfR.out) rfl ?_
      exact ⟨by rw [hRR.out], hr8.out.keep hk9.out n3 n4, hk08.out.trans hk9.out (fun x hx hv => by have := hb2.out; omega)⟩
end Go.Proofs.Ythgpmgodpedjdaa
namespace Go.Proofs.Ythgpmgodpedjdaa
open Go Go.RowKit
set_option linter.unusedSimpArgs false
set_option linter.unusedVariables false

theorem rNum_put' (n : Nat) (most : Int) (rest : List UInt8) (h : n ≤ 9223372036854775807) (hm : (n : Int) ≤ most) : Num.rNum (Num.putI n ++ rest, 0) most = (n, (rest, 0)) := by
  rw [Num.putI_nat, Num.rNum, if_neg (by simp), Num.numAt_put n rest h]
  simp only [ne_eq, not_true, if_false]
  rw [if_neg (by omega), List.drop_left]
theorem rText_put' (s : List UInt8) (most : Int) (rest : List UInt8) (h : s.length ≤ 9223372036854775807) (hm : (s.length : Int) ≤ most) : Num.rText (Num.putT s ++ rest, 0) most = (s, (rest, 0)) := by
  rw [Num.rText, if_neg (by simp), Num.putT, List.append_assoc, Num.numAt_put s.length (s ++ rest) h]
  simp only [ne_eq, not_true, if_false]
  rw [if_neg (by omega), if_neg (by rw [List.length_append, List.length_append]; omega)]
  have e1 : (Num.putN s.length ++ (s ++ rest)).drop (Num.putN s.length).length = s ++ rest := List.drop_left
  have e2 : (Num.putN s.length ++ (s ++ rest)).drop ((Num.putN s.length).length + s.length) = rest := by rw [← List.append_assoc, ← List.length_append, List.drop_left]
  rw [e1, e2, List.take_left]
theorem reqGet_put (r : Req) (rest : List UInt8) (ht : r.tag.length = 16) (h0 : 0 ≤ r.client) (h1 : r.client ≤ 8) (h2 : 0 ≤ r.num) (h3 : r.num ≤ 1099511627776) (h4 : r.data.size ≤ 64) : reqGet (reqPut r ++ rest, 0) = (r, (rest, 0)) := by
  obtain ⟨c, n, d, t⟩ := r
  simp only at ht h0 h1 h2 h3 h4
  obtain ⟨c, rfl⟩ := Int.eq_ofNat_of_zero_le h0
  obtain ⟨n, rfl⟩ := Int.eq_ofNat_of_zero_le h2
  unfold reqGet reqPut
  simp only
  have hd : d.data.toList.length = d.size := by simp
  rw [List.append_assoc, List.append_assoc, List.append_assoc, rNum_put' c 8 _ (by omega) h1]
  simp only
  rw [rNum_put' n 1099511627776 _ (by omega) h3]
  simp only
  rw [rText_put' d.data.toList 64 _ (by omega) (by omega)]
  simp only
  have hr : Num.rRaw (t ++ rest, 0) 16 = (t, (rest, 0)) := by
    unfold Num.rRaw
    simp only [ne_eq, not_true, if_false]
    rw [if_neg (by omega), if_neg (by rw [List.length_append]; omega)]
    simp [← ht]
  rw [hr]
  simp only
  rw [if_neg (by omega)]
end Go.Proofs.Ythgpmgodpedjdaa
namespace Go.Proofs.Ythgpmgodpedjdaa
open Go Go.RowKit
set_option linter.unusedSimpArgs false
set_option linter.unusedVariables false

theorem tagPart_set (c n : Int) (d : ByteArray) (x : List UInt8) (k : Nat) (hk : k < x.length) (hx : x.length = 16) : (Req.mk c n d (fillb (x.take k) 16)).cells.toArray.setIfInBounds (3 + k) (.int .u8 ((x.getD k 0).toNat : Int)) = (Req.mk c n d (fillb (x.take (k + 1)) 16)).cells.toArray := by
  rw [mk_tag]
  congr 4
  have h1 : (x.take k).length = k := by rw [List.length_take]; omega
  have h2 : x.take (k + 1) = x.take k ++ [x.getD k 0] := by
    rw [List.take_succ_eq_append_getElem hk]
    simp [List.getD, hk]
  rw [h2]
  unfold fillb
  rw [List.length_append, h1, show 16 - k = (16 - (k + [x.getD k 0].length)) + 1 from by simp; omega, List.replicate_succ, List.set_append_right _ _ (by omega), h1, Nat.sub_self]
  simp
set_option maxRecDepth 100000 in
set_option maxHeartbeats 1600000 in
theorem rqrget_any (rb db : Nat) (s : List UInt8 × Nat) (w : World) (h : RRdr w rb db s) (hl : s.1.length ≤ 140737488000000) :
    Calls Try.prog 93 #[.pointer (some ⟨rb, 0, none⟩)] w (RRetGet w rb db (reqGet s)) := by
  unfold reqGet
  simp only
  have k1 := rNum_le' s 8
  obtain ⟨A, hA⟩ : ∃ A, A = Num.rNum s 8 := ⟨_, rfl⟩
  rw [← hA] at k1 ⊢
  have k2 := rNum_le' A.2 1099511627776
  obtain ⟨B, hB⟩ : ∃ B, B = Num.rNum A.2 1099511627776 := ⟨_, rfl⟩
  rw [← hB] at k2 ⊢
  have k3 := rText_le' B.2 64
  obtain ⟨C, hC⟩ : ∃ C, C = Num.rText B.2 64 := ⟨_, rfl⟩
  rw [← hC] at k3 ⊢
  have k4 := rRaw16 C.2
  obtain ⟨X, hX⟩ : ∃ X, X = Num.rRaw C.2 16 := ⟨_, rfl⟩
  rw [← hX] at k4 ⊢
  obtain ⟨an, sa⟩ := A
  obtain ⟨bn, sb⟩ := B
  obtain ⟨cl, sc⟩ := C
  obtain ⟨xl, sx⟩ := X
  simp only at k1 k2 k3 k4 hA hB hC hX ⊢
  have hq1 := fun w h => rnum_any rb db s 8 w h
  have hq2 := fun w h => rnum_any rb db sa 1099511627776 w h
  have hq3 := fun w h => rtext_read rb db sb 64 w h
  have hq4 := fun w h => rraw_any rb db sc 16 w h (by omega)
  rw [← hA] at hq1
  rw [← hB] at hq2
  rw [← hC] at hq3
  rw [← hX] at hq4
  unfold RRetNum at hq1 hq2
  unfold RRetText at hq3
  unfold RRetRaw at hq4
  simp only at hq1 hq2 hq3 hq4
  obtain ⟨l1, l2, l3⟩ := h.lt
  have e1 := mk_client 0 0 an ByteArray.empty noTag
  have e2 := mk_num an 0 bn ByteArray.empty noTag
  have e3 := mk_data an bn ByteArray.empty ⟨cl.toArray⟩ noTag
  have hinfZ := Lib.hid (req_info zeroReq_tag)
  obtain ⟨R, hR⟩ : ∃ R, R = (if xl.length < 16 then zeroReq else (⟨an, bn, ⟨cl.toArray⟩, xl⟩ : Req)) := ⟨_, rfl⟩
  rw [← hR]
  clear hA hB hC hX k1 k2 k3 hl
  replace hR := Lib.hid hR
  replace h := Lib.hid h
  replace hq1 := Lib.hid hq1
  replace hq2 := Lib.hid hq2
  replace hq3 := Lib.hid hq3
  replace hq4 := Lib.hid hq4
  replace k4 := Lib.hid k4
  replace e1 := Lib.hid e1
  replace e2 := Lib.hid e2
  replace e3 := Lib.hid e3
  go_enter Try.func93, Try.ntmps93
  go_upto_region 1 with (refine alloc_new rfl 44 rfl zeroReq.cells.toArray (by kernel_rfl) ?_; intro w0 hd0 hs0; replace hd0 := Lib.hid hd0; replace hs0 := Lib.hid hs0)
  go_upto_region 2 with (refine alloc_new rfl 44 rfl zeroReq.cells.toArray (by kernel_rfl) ?_; intro w1 hdS hs1)
  obtain ⟨b3, hb3'⟩ : ∃ b, b = w0.heap.size := ⟨_, rfl⟩
  have z0 := hs0.out.size
  have hdl0 := blk_lt hd0.out
  have hb3 : w.heap.size ≤ b3 := by omega
  have n1 : b3 ≠ rb := by omega
  have n2 : b3 ≠ db := by omega
  have n3 : ¬ rb = b3 := by omega
  have n4 : ¬ db = b3 := by omega
  have n5 : ¬ w.heap.size = b3 := by omega
  have n6 : ¬ w.heap.size = rb := by omega
  have n7 : ¬ rb = w.heap.size := by omega
  have n8 : ¬ db = w.heap.size := by omega
  rw [← hb3'] at hdS ⊢
  have hrS := Lib.hid (h.out.same (hs0.out.trans hs1))
  have hkk := Lib.hid (Keep.of_same (p := (· = rb)) (hs0.out.trans hs1))
  have hd0 := Lib.hid (hs1.at hd0.out)
  have hdl := blk_lt hdS
  clear hs0 hs1 h hb3' z0 hdl0
  replace hb3 := Lib.hid hb3
  replace hdS := Lib.hid hdS
  go_wp2_with fail
  refine (hq1.out _ hrS.out).mono ?_
  rintro e w2 ⟨rfl, hrN, hkN⟩
  have hdN := (hkN.block _ hdl n1).trans hdS.out
  have cS : w2.cell? ⟨b3, 0, none⟩ = some (.int .i64 0) := by rw [blk_cell hdN]; rfl
  have fz := blk_frozen hdN 0
  have hd0 := Lib.hid ((hkN.block _ (blk_lt hd0.out) n6).trans hd0.out)
  have hkk := Lib.hid (hkk.out.trans hkN (fun _ _ h => h))
  clear hkN hrS hdS hdl
  replace hdN := Lib.hid hdN
  replace hrN := Lib.hid hrN
  go_upto_region 3 with fail
  obtain ⟨w3, hwS⟩ : ∃ x, x = w2.setCell ⟨b3, 0, none⟩ (.int .i64 (an : Int)) := ⟨_, rfl⟩
  rw [← hwS]
  obtain ⟨hdS, hrS, hkS⟩ := rget_step hdN.out e1.out hrN.out n1 n2 (Nat.le_refl _) hwS
  have hd0 := Lib.hid ((hkS.block _ (blk_lt hd0.out) n5).trans hd0.out)
  have hkk := Lib.hid (hkk.out.trans hkS (fun x hx hv => by have := hb3.out; omega))
  have hdl := blk_lt hdS
  clear hwS cS fz hdN hrN hkS
  replace hdS := Lib.hid hdS
  replace hrS := Lib.hid hrS
  go_wp2_with fail
  refine (hq2.out _ hrS.out).mono ?_
  rintro e w4 ⟨rfl, hrN, hkN⟩
  have hdN := (hkN.block _ hdl n1).trans hdS.out
  have cS : w4.cell? ⟨b3, 1, none⟩ = some (.int .i64 0) := by rw [blk_cell hdN]; rfl
  have fz := blk_frozen hdN 1
  have hd0 := Lib.hid ((hkN.block _ (blk_lt hd0.out) n6).trans hd0.out)
  have hkk := Lib.hid (hkk.out.trans hkN (fun _ _ h => h))
  clear hkN hrS hdS hdl
  replace hdN := Lib.hid hdN
  replace hrN := Lib.hid hrN
  go_upto_region 4 with fail
  obtain ⟨w5, hwS⟩ : ∃ x, x = w4.setCell ⟨b3, 1, none⟩ (.int .i64 (bn : Int)) := ⟨_, rfl⟩
  rw [← hwS]
  obtain ⟨hdS, hrS, hkS⟩ := rget_step hdN.out e2.out hrN.out n1 n2 (Nat.le_refl _) hwS
  have hd0 := Lib.hid ((hkS.block _ (blk_lt hd0.out) n5).trans hd0.out)
  have hkk := Lib.hid (hkk.out.trans hkS (fun x hx hv => by have := hb3.out; omega))
  have hdl := blk_lt hdS
  clear hwS cS fz hdN hrN hkS
  replace hdS := Lib.hid hdS
  replace hrS := Lib.hid hrS
  go_wp2_with fail
  refine (hq3.out _ hrS.out).mono ?_
  rintro e w6 ⟨rfl, hrN, hkN⟩
  have hdN := (hkN.block _ hdl n1).trans hdS.out
  have cS : w6.cell? ⟨b3, 2, none⟩ = some (.string ByteArray.empty) := by rw [blk_cell hdN]; rfl
  have fz := blk_frozen hdN 2
  have hd0 := Lib.hid ((hkN.block _ (blk_lt hd0.out) n6).trans hd0.out)
  have hkk := Lib.hid (hkk.out.trans hkN (fun _ _ h => h))
  clear hkN hrS hdS hdl
  replace hdN := Lib.hid hdN
  replace hrN := Lib.hid hrN
  go_upto_region 5 with fail
  obtain ⟨w7, hwS⟩ : ∃ x, x = w6.setCell ⟨b3, 2, none⟩ (.string ⟨cl.toArray⟩) := ⟨_, rfl⟩
  rw [← hwS]
  obtain ⟨hdS, hrS, hkS⟩ := rget_step hdN.out e3.out hrN.out n1 n2 (Nat.le_refl _) hwS
  have hd0 := Lib.hid ((hkS.block _ (blk_lt hd0.out) n5).trans hd0.out)
  have hkk := Lib.hid (hkk.out.trans hkS (fun x hx hv => by have := hb3.out; omega))
  have hdl := blk_lt hdS
  clear hwS cS fz hdN hrN hkS
  replace hdS := Lib.hid hdS
  replace hrS := Lib.hid hrS
  go_wp2_with fail
  refine (hq4.out _ hrS.out).mono ?_
  rintro e w8 ⟨v8, rfl, ho8, hr8, hk8⟩
  have hd8 := (hk8.block _ hdl n1).trans hdS.out
  have hd0 := Lib.hid ((hk8.block _ (blk_lt hd0.out) n6).trans hd0.out)
  have hkk := Lib.hid (hkk.out.trans hk8 (fun _ _ h => h))
  have hvb := ho8.base
  have cE := hr8.err
  obtain ⟨ao, cp, rfl, hsl8⟩ := ho8.sl
  have hvn : ∀ q, ao = some q → q.block ≠ b3 := fun q hq => by have := hvb q.block (by subst hq; rfl); omega
  clear hk8 hrS hdS ho8 hvb
  replace hd8 := Lib.hid hd8
  replace hr8 := Lib.hid hr8
  replace hsl8 := Lib.hid hsl8
  replace hvn := Lib.hid hvn
  rcases k4.out with ⟨kx, ke⟩ | ⟨kx, ke⟩
  · have hz : ((sx.2 : Int) != 0) = false := by simp [ke]
    have hE := hR.out
    rw [if_neg (by omega)] at hE
    have hst := tagPart_set an bn ⟨cl.toArray⟩ xl
    have hinfR := Lib.hid (req_info (r := Req.mk an bn ⟨cl.toArray⟩ xl) kx)
    rw [kx] at hsl8
    clear k4 hR ke
    replace hE := Lib.hid hE
    replace hst := Lib.hid hst
    replace kx := Lib.hid kx
    go_wp2
    clear cE
    go_loopw [5] (fun i wr => ∃ k : Nat, k ≤ 16 ∧ i = .int .i64 k ∧ wr.heap[b3]? = some (.cells (Req.mk an bn ⟨cl.toArray⟩ (fillb (xl.take k) 16)).cells.toArray 44 (0, 0)) ∧ Keep (· = b3) w8 wr) (fun i _ => 16 - (intOf i).toNat)
    case atStart => exact ⟨0, by omega, rfl, hd8.out, Keep.refl⟩
    case round =>
      obtain ⟨k, hk, rfl, hdk, hkp⟩ := hrel
      by_cases hlt : k < 16
      · obtain ⟨bk, off, rfl, hbk, hcell⟩ := hsl8.out.at (by intro h2; have := hsl8.out.len; rw [h2] at this; simp at this)
        have hvk := hvn.out _ rfl
        simp only at hvk
        have ct := hkp.cell (hcell k _ (bv_get (by rw [kx.out]; exact hlt))) hvk
        rw [show xl[k]'(by rw [kx.out]; exact hlt) = xl.getD k 0 from by simp [List.getD, kx.out, hlt]] at ct
        have hs2 := hst.out k (by rw [kx.out]; exact hlt) kx.out
        obtain ⟨z, hz2⟩ : ∃ z, z = xl.getD k 0 := ⟨_, rfl⟩
        rw [← hz2] at ct hs2
        have fz := blk_frozen hdk (3 + k)
        have hcs : ((Req.mk an bn ⟨cl.toArray⟩ (fillb (xl.take k) 16)).cells.toArray)[3 + k]? ≠ none := by
          rw [List.getElem?_toArray, List.getElem?_eq_getElem (by rw [Req.cells_length (fillb_length _ _ (by rw [List.length_take]; omega))]; omega)]
          simp
        obtain ⟨old, hold⟩ : ∃ old, ((Req.mk an bn ⟨cl.toArray⟩ (fillb (xl.take k) 16)).cells.toArray)[3 + k]? = some old := Option.ne_none_iff_exists'.1 hcs
        have cc : wr.cell? ⟨b3, 3 + k, none⟩ = some old := by rw [blk_cell hdk, hold]
        have q0 : 0 ≤ (k : Int) := by omega
        have q1 : (k : Int) < 16 := by omega
        have q2 : (k : Int) < (xl.length : Int) := by rw [kx.out]; omega
        clear hz2 hcs hold hcell hbk
        replace hs2 := Lib.hid hs2
        replace hdk := Lib.hid hdk
        replace hkp := Lib.hid hkp
        go_wp2
        go_roundw
        case rel => exact ⟨k + 1, by omega, by go_num, (blk_set hdk.out).trans (by rw [hs2.out]), hkp.out.trans (Keep.setCell (p := (· = b3)) _ rfl) (fun _ _ h => h)⟩
        case measure => simp [intOf]; omega
      · obtain rfl : k = 16 := by omega
        rw [List.take_of_length_le (by rw [kx.out]; exact Nat.le_refl _), fillb_full xl 16 kx.out] at hdk
        have hd9 := Lib.hid ((hkp.block _ (blk_lt hd0.out) n5).trans hd0.out)
        have hr9 := Lib.hid (hr8.out.keep hkp n3 n4)
        have hk9 := Lib.hid (hkk.out.trans hkp (fun x hx hv => by have := hb3.out; omega))
        have hszR := Lib.hid (req_sizes (r := zeroReq) (s := Req.mk an bn ⟨cl.toArray⟩ xl) rfl kx.out)
        clear hkp hd0 hr8 hkk
        replace hdk := Lib.hid hdk
        go_wp2_with (first | (refine load_row rfl _ _ rfl b3 rfl _ _ _ _ hdk.out Try.underlying44 rfl hinfR.out ?_) | (refine store_row rfl _ _ _ rfl w.heap.size _ rfl rfl _ _ hd9.out hinfR.out hszR.out (req_one _) ?_; intro w10 hb10 hk10; replace hb10 := Lib.hid hb10; replace hk10 := Lib.hid hk10))
        refine bodyPost_ret (v := .agg (Req.mk an bn ⟨cl.toArray⟩ xl).cells.toArray) (results_row (p := 2) (ty := 44) rfl _ _ w.heap.size _ _ _ _ rfl hb10.out Try.underlying44 rfl hinfR.out) rfl ?_
        exact ⟨by rw [hE.out], hr9.out.keep hk10.out n7 n8, hk9.out.trans hk10.out (fun x hx hv => by omega)⟩
  · have hz : ((sx.2 : Int) != 0) = true := by simp; omega
    have hE := hR.out
    rw [if_pos (by rw [kx]; simp)] at hE
    clear k4 hR ke hd8 hsl8 hvn
    replace hE := Lib.hid hE
    go_wp2_with (first | (refine build_const (ty := 44) (.agg zeroReq.cells.toArray) rfl rfl (by kernel_rfl) ?_) | (refine store_row rfl _ _ _ rfl w.heap.size _ rfl rfl _ _ hd0.out hinfZ.out rfl (req_one _) ?_; intro w10 hb10 hk10; replace hb10 := Lib.hid hb10; replace hk10 := Lib.hid hk10))
    refine bodyPost_ret (v := .agg zeroReq.cells.toArray) (results_row (p := 2) (ty := 44) rfl _ _ w.heap.size _ _ _ _ rfl hb10.out Try.underlying44 rfl hinfZ.out) rfl ?_
    exact ⟨by rw [hE.out], hr8.out.keep hk10.out n7 n8, hkk.out.trans hk10.out (fun x hx hv => by omega)⟩
end Go.Proofs.Ythgpmgodpedjdaa
