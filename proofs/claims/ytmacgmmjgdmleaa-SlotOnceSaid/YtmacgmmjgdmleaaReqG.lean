/-
  Requests: how one is read, by both; what was put is read as it was.
-/
import Derived.Test.YtmacgmmjgdmleaaReqP
import Derived.Test.YtmacgmmjgdmleaaRRd
import Derived.Test.YtmacgmmjgdmleaaSha5
namespace Go.Proofs.Ytmacgmmjgdmleaa
open Go Go.RowKit
set_option linter.unusedSimpArgs false
set_option linter.unusedVariables false

theorem rNum_le' (s : List UInt8 × Nat) (m : Int) : (Num.rNum s m).2.1.length ≤ s.1.length := by
  unfold Num.rNum
  split
  · exact Nat.le_refl _
  · split
    rename_i n size e _
    split
    · simp
    · split
      · simp
      · simp
theorem rText_le' (s : List UInt8 × Nat) (m : Int) : (Num.rText s m).2.1.length ≤ s.1.length := by
  unfold Num.rText
  split
  · exact Nat.le_refl _
  · split
    rename_i n size e _
    split
    · simp
    · split
      · simp
      · split
        · simp
        · simp
theorem rRaw_le' (s : List UInt8 × Nat) (m : Int) : (Num.rRaw s m).2.1.length ≤ s.1.length := by
  unfold Num.rRaw
  split
  · exact Nat.le_refl _
  · split
    · simp
    · split
      · simp
      · simp
theorem rRaw16 (s : List UInt8 × Nat) : (Num.rRaw s 16).1.length = 16 ∧ (Num.rRaw s 16).2.2 = 0 ∨ (Num.rRaw s 16).1 = [] ∧ (Num.rRaw s 16).2.2 ≠ 0 := by
  unfold Num.rRaw
  split
  · rename_i h
    exact .inr ⟨rfl, h⟩
  · split
    · exact .inr ⟨rfl, by simp⟩
    · split
      · exact .inr ⟨rfl, by simp⟩
      · rename_i h1 h2 h3
        left
        simp
        omega
/-- What is read, and what is left. -/
def reqGet (s : List UInt8 × Nat) : Req × (List UInt8 × Nat) :=
  let a := Num.rNum s 8
  let b := Num.rNum a.2 1099511627776
  let t := Num.rText b.2 64
  let x := Num.rRaw t.2 16
  (if x.1.length < 16 then zeroReq else ⟨a.1, b.1, ⟨t.1.toArray⟩, x.1⟩, x.2)
theorem reqGet_le (s : List UInt8 × Nat) : (reqGet s).2.1.length ≤ s.1.length := by
  unfold reqGet
  simp only
  exact Nat.le_trans (rRaw_le' _ _) (Nat.le_trans (rText_le' _ _) (Nat.le_trans (rNum_le' _ _) (rNum_le' _ _)))
theorem reqGet_tag (s : List UInt8 × Nat) : (reqGet s).1.tag.length = 16 := by
  unfold reqGet
  simp only
  split
  · rfl
  · rcases rRaw16 (Num.rText (Num.rNum (Num.rNum s 8).2 1099511627776).2 64).2 with h | h
    · exact h.1
    · rename_i h2
      rw [h.1] at h2
      simp at h2
theorem mk_client (c n x : Int) (d : ByteArray) (t : List UInt8) : (Req.mk c n d t).cells.toArray.setIfInBounds 0 (.int .i64 x) = (Req.mk x n d t).cells.toArray := by simp [Req.cells]
theorem mk_num (c n x : Int) (d : ByteArray) (t : List UInt8) : (Req.mk c n d t).cells.toArray.setIfInBounds 1 (.int .i64 x) = (Req.mk c x d t).cells.toArray := by simp [Req.cells]
theorem mk_data (c n : Int) (d x : ByteArray) (t : List UInt8) : (Req.mk c n d t).cells.toArray.setIfInBounds 2 (.string x) = (Req.mk c n x t).cells.toArray := by simp [Req.cells]
theorem mk_tag (c n : Int) (d : ByteArray) (t : List UInt8) (k : Nat) (b : UInt8) : (Req.mk c n d t).cells.toArray.setIfInBounds (3 + k) (.int .u8 (b.toNat : Int)) = (Req.mk c n d (t.set k b)).cells.toArray := by
  simp only [Req.cells, List.setIfInBounds_toArray]
  congr 1
  rw [List.set_append_right _ _ (by simp)]
  simp [bv, List.map_set]
section
variable {P : Program} {ops : Array Oper} {rest : List Oper} {o : Oper} {a : Act} {Q : Exit → Act → World → Prop} {t e : TypeId} {z : Value} {sz by_ : Nat}
/-- 'copy(row[off:], s)', all of s, whatever s. -/
theorem copy_at {W : World} (hg : Region.wanted o (yielded ops a.tmps) = true) (d s : Operand) (dT sT : TypeId)
    (ho : o.op = .call { callee := .builtin .copy, args := #[d, s], argTypes := #[dT, sT] }) (hu : P.underlying dT = some (.slice e)) (hsz : (P.info? e).map (·.size) = some 1)
    (g off dLen dCap : Nat) (ao : Option Addr) (sLen sCap : Nat) (hd : a.eval d = .slice (some ⟨g, off, none⟩) dLen dCap) (hs : a.eval s = .slice ao sLen sCap)
    (cur : Array Value) (T : TypeId) (hb : W.heap[g]? = some (.cells cur T (0, 0))) (cs : List Value) (hsl : Sl W 1 ao sLen sCap cs) (hle : sLen ≤ dLen) (hfit : off + dLen ≤ cur.size) (h1 : ∀ v ∈ cs, v.oneCell' = true)
    (h : ∀ w', w'.heap[g]? = some (.cells (cur.toList.take off ++ (cs ++ cur.toList.drop (off + cs.length))).toArray T (0, 0)) → Keep (· = g) W w' → wpList P ops Q rest (a.put o.dst (goInt cs.length)) w') : wpList P ops Q (o :: rest) a W := by
  have hlen : cs.length = sLen := by have := hsl.len; omega
  rcases ao with _ | ad
  · have h0 := hsl.nil rfl
    have h2 := hsl.cap
    obtain rfl : sLen = 0 := by omega
    obtain rfl : cs = [] := List.eq_nil_of_length_eq_zero hlen
    refine wpL hg fun K hK => ?_
    obtain ⟨i, hi, hi1⟩ : ∃ i, P.info? e = some i ∧ i.size = 1 := by
      cases hx : P.info? e with
      | none => rw [hx] at hsz; cases hsz
      | some i => rw [hx] at hsz; exact ⟨i, rfl, by simpa using hsz⟩
    have hrun : (Builtin.copy_ #[dT, sT] o.type #[.slice (some ⟨g, off, none⟩) dLen dCap, .slice none 0 sCap]).run P W = .ok (goInt 0) W := by
      simp [Builtin.copy_, Builtin.lenOf, Builtin.firstCells, run_underlying hu, Sem.run_bind, Result.andThen, sizeOf, typeInfo, hi, hi1, storeCells]
    unfold Oper.wp
    simp [execOp, ho, resolve, invoke, builtin, hd, hs, hrun, Result.andThen]
    exact hK _ _ (h W (by simpa using hb) Keep.refl)
  · refine copy_row hg d s dT sT ho hu hsz g off dLen dCap ad sLen sCap hd hs cur T hb cs (by rw [hlen]; exact (Nat.min_eq_left hle).symm) (fun j v hj => hsl.cell ad rfl j v hj) (by omega) h1 ?_
    intro w' hb' hk'
    exact h w' hb' hk'
end
def RetGet (w : World) (rb db : Nat) (x : Req × (List UInt8 × Nat)) (e : Ending) (w' : World) : Prop := e = .returned (.agg x.1.cells.toArray) ∧ Rdr w' rb db x.2 ∧ Keep (· = rb) w w'
def RRetGet (w : World) (rb db : Nat) (x : Req × (List UInt8 × Nat)) (e : Ending) (w' : World) : Prop := e = .returned (.agg x.1.cells.toArray) ∧ RRdr w' rb db x.2 ∧ Keep (· = rb) w w'
def isRaw (rb db : Nat) (l : List UInt8) (s : List UInt8 × Nat) : Value → World → Prop := fun v w => ∃ ao c, v = .slice ao l.length c ∧ Sl w 1 ao l.length c (bv l) ∧ Rdr w rb db s
theorem isRaw_stable (rb db : Nat) (l : List UInt8) (s : List UInt8 × Nat) : Stable Same (isRaw rb db l s) := fun _ _ _ k ⟨ao, c, h, h1, h2⟩ => ⟨ao, c, h, h1.same k, h2.same k⟩
def isCopied (rb db b : Nat) (n : Nat) (cs : List Value) (T : TypeId) (s : List UInt8 × Nat) : Value → World → Prop := fun v w => v = .int .i64 (n : Int) ∧ Rdr w rb db s ∧ w.heap[b]? = some (.cells cs.toArray T (0, 0))
theorem isCopied_stable (rb db b n : Nat) (cs : List Value) (T : TypeId) (s : List UInt8 × Nat) : Stable Same (isCopied rb db b n cs T s) := fun _ _ _ k ⟨h, h1, h2⟩ => ⟨h, h1.same k, k.at h2⟩
/-- One cell of the new request is stored: where the walk stands then. -/
theorem get_step {w1 w2 : World} {b j : Nat} {v : Value} {old new : Array Value} {T rb db : Nat} {s : List UInt8 × Nat} {base : Nat} (hb : w1.heap[b]? = some (.cells old T (0, 0))) (hs : old.setIfInBounds j v = new) (hr : Rdr w1 rb db s) (h1 : b ≠ rb) (h2 : b ≠ db) (hbase : base ≤ b) (h : w2 = w1.setCell ⟨b, j, none⟩ v) :
    w2.heap[b]? = some (.cells new T (0, 0)) ∧ Rdr w2 rb db s ∧ Keep (· = b) w1 w2 := by
  subst h
  have hk : Keep (· = b) w1 (w1.setCell ⟨b, j, none⟩ v) := Keep.setCell (p := (· = b)) _ rfl
  exact ⟨by rw [blk_set hb, hs], hr.keep hk (fun h => h1 h.symm) (fun h => h2 h.symm), hk⟩
theorem rget_step {w1 w2 : World} {b j : Nat} {v : Value} {old new : Array Value} {T rb db : Nat} {s : List UInt8 × Nat} {base : Nat} (hb : w1.heap[b]? = some (.cells old T (0, 0))) (hs : old.setIfInBounds j v = new) (hr : RRdr w1 rb db s) (h1 : b ≠ rb) (h2 : b ≠ db) (hbase : base ≤ b) (h : w2 = w1.setCell ⟨b, j, none⟩ v) :
    w2.heap[b]? = some (.cells new T (0, 0)) ∧ RRdr w2 rb db s ∧ Keep (· = b) w1 w2 := by
  subst h
  have hk : Keep (· = b) w1 (w1.setCell ⟨b, j, none⟩ v) := Keep.setCell (p := (· = b)) _ rfl
  exact ⟨by rw [blk_set hb, hs], hr.keep hk (fun h => h1 h.symm) (fun h => h2 h.symm), hk⟩
end Go.Proofs.Ytmacgmmjgdmleaa
namespace Go.Proofs.Ytmacgmmjgdmleaa
open Go Go.RowKit
set_option linter.unusedSimpArgs false
set_option linter.unusedVariables false

theorem rNum_put' (n : Nat) (most : Int) (rest : List UInt8) (h : n ≤ 9223372036854775807) (hm : (n : Int) ≤ most) : Num.rNum (Num.putI n ++ rest, 0) most = (n, (rest, 0)) := by
  rw [Num.putI_nat, Num.rNum, if_neg (by simp), Num.numAt_put n rest h]
  simp only [ne_eq, not_true, if_false]
  rw [if_neg (by omega), List.drop_left]
theorem rText_put' (s : List UInt8) (most : Int) (rest : List UInt8) (h : s.length ≤ 9223372036854775807) (hm : (s.length : Int) ≤ most) : Num.rText (Num.putT s ++ rest, 0) most = (s, (rest, 0)) := by
  rw [Num.rText, if_neg (by simp), Num.putT, List.append_assoc, Num.numAt_put s.length (s ++ rest) h]
  simp only [ne_eq, not_true, if_false]
  rw [if_neg (by omega), if_neg (by rw [List.length_append, List.length_append]; omega)]
  have e1 : (Num.putN s.length ++ (s ++ rest)).drop (Num.putN s.length).length = s ++ rest := List.drop_left
  have e2 : (Num.putN s.length ++ (s ++ rest)).drop ((Num.putN s.length).length + s.length) = rest := by rw [← List.append_assoc, ← List.length_append, List.drop_left]
  rw [e1, e2, List.take_left]
theorem reqGet_put (r : Req) (rest : List UInt8) (ht : r.tag.length = 16) (h0 : 0 ≤ r.client) (h1 : r.client ≤ 8) (h2 : 0 ≤ r.num) (h3 : r.num ≤ 1099511627776) (h4 : r.data.size ≤ 64) : reqGet (reqPut r ++ rest, 0) = (r, (rest, 0)) := by
  obtain ⟨c, n, d, t⟩ := r
  simp only at ht h0 h1 h2 h3 h4
  obtain ⟨c, rfl⟩ := Int.eq_ofNat_of_zero_le h0
  obtain ⟨n, rfl⟩ := Int.eq_ofNat_of_zero_le h2
  unfold reqGet reqPut
  simp only
  have hd : d.data.toList.length = d.size := by simp
  rw [List.append_assoc, List.append_assoc, List.append_assoc, rNum_put' c 8 _ (by omega) h1]
  simp only
  rw [rNum_put' n 1099511627776 _ (by omega) h3]
  simp only
  rw [rText_put' d.data.toList 64 _ (by omega) (by omega)]
  simp only
  have hr : Num.rRaw (t ++ rest, 0) 16 = (t, (rest, 0)) := by
    unfold Num.rRaw
    simp only [ne_eq, not_true, if_false]
    rw [if_neg (by omega), if_neg (by rw [List.length_append]; omega)]
    simp [← ht]
  rw [hr]
  simp only
  rw [if_neg (by omega)]
end Go.Proofs.Ytmacgmmjgdmleaa
namespace Go.Proofs.Ytmacgmmjgdmleaa
open Go Go.RowKit
set_option linter.unusedSimpArgs false
set_option linter.unusedVariables false

theorem tagPart_set (c n : Int) (d : ByteArray) (x : List UInt8) (k : Nat) (hk : k < x.length) (hx : x.length = 16) : (Req.mk c n d (fillb (x.take k) 16)).cells.toArray.setIfInBounds (3 + k) (.int .u8 ((x.getD k 0).toNat : Int)) = (Req.mk c n d (fillb (x.take (k + 1)) 16)).cells.toArray := by
  rw [mk_tag]
  congr 4
  have h1 : (x.take k).length = k := by rw [List.length_take]; omega
  have h2 : x.take (k + 1) = x.take k ++ [x.getD k 0] := by
    rw [List.take_succ_eq_append_getElem hk]
    simp [List.getD, hk]
  rw [h2]
  unfold fillb
  rw [List.length_append, h1, show 16 - k = (16 - (k + [x.getD k 0].length)) + 1 from by simp; omega, List.replicate_succ, List.set_append_right _ _ (by omega), h1, Nat.sub_self]
  simp
end Go.Proofs.Ytmacgmmjgdmleaa
