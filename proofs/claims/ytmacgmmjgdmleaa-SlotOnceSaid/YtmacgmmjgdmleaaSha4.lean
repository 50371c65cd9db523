/-
  The digest's write: bytes behind the bytes that came.
-/
import Derived.Test.YtmacgmmjgdmleaaSha3
import Derived.StillTailTactics
namespace Go.Proofs.Ytmacgmmjgdmleaa
open Go Go.RowKit
set_option linter.unusedSimpArgs false
set_option linter.unusedVariables false

theorem Sha.hash_same (l x : List UInt8) (h : (l ++ x).length / 64 = l.length / 64) : Sha.hash (l ++ x) = Sha.hash l := by
  rw [Sha.hash_eq, Sha.hash_eq, h, Sha.fold_append]
  omega
theorem Sha.hash_next (l x : List UInt8) (h : (l ++ x).length = 64 * (l.length / 64 + 1)) : Sha.hash (l ++ x) = Sha.block (Sha.hash l) (l.drop (64 * (l.length / 64)) ++ x) := by
  have e : (l ++ x).length / 64 = l.length / 64 + 1 := by omega
  rw [Sha.hash_eq, Sha.hash_eq, e, Sha.fold_succ, Sha.fold_append _ _ _ _ (by omega), List.drop_append_of_le_length (by omega)]
  congr 1
  refine List.take_of_length_le ?_
  simp only [List.length_append, List.length_drop] at h ⊢
  omega

/-- The stream behind bytes. -/
def Strm (w : World) (sb : Nat) (l : List UInt8) : Prop :=
  ∃ wait : List UInt8, w.heap[sb]? = some (.cells (stm (Sha.hash l).list wait (l.length : Int)).toArray 254 (0, 0)) ∧ wait.length = 64 ∧ wait.take (l.length % 64) = l.drop (64 * (l.length / 64))
theorem Strm.lt {w : World} {sb : Nat} {l : List UInt8} (h : Strm w sb l) : sb < w.heap.size := by
  obtain ⟨_, h, _⟩ := h
  exact blk_lt h
theorem Strm.keep {w w' : World} {sb : Nat} {l : List UInt8} {p : Nat → Prop} (h : Strm w sb l) (k : Keep p w w') (hp : ¬ p sb) : Strm w' sb l := by
  have hl := h.lt
  obtain ⟨wait, h1, h2⟩ := h
  exact ⟨wait, (k.block sb hl hp).trans h1, h2⟩
theorem Strm.same {w w' : World} {sb : Nat} {l : List UInt8} (h : Strm w sb l) (k : Same w w') : Strm w' sb l := h.keep (Keep.of_same (p := fun _ => False) k) id
/-- Bytes laid into those that wait. -/
def laid (wait : List UInt8) (p : Nat) (x : List UInt8) : List UInt8 := wait.take p ++ (x ++ wait.drop (p + x.length))
theorem laid_length {wait : List UInt8} {p : Nat} {x : List UInt8} (h : wait.length = 64) (hx : p + x.length ≤ 64) : (laid wait p x).length = 64 := by
  simp [laid, h]
  omega
theorem stm_laid {s : List UInt32} {wait x : List UInt8} {n : Int} {p : Nat} (hs : s.length = 8) (hw : wait.length = 64) (hx : p + x.length ≤ 64) :
    (stm s wait n).take (8 + p) ++ (bv x ++ (stm s wait n).drop (8 + p + (bv x).length)) = stm s (laid wait p x) n := by
  have hu : (uvs s).length = 8 := by rw [uvs_length, hs]
  have e1 : (stm s wait n).take (8 + p) = uvs s ++ bv (wait.take p) := by
    rw [stm, List.take_append, List.take_of_length_le (by omega), hu, show 8 + p - 8 = p from by omega, List.take_append_of_le_length (by rw [bv_length]; omega), bv_take]
  have e2 : (stm s wait n).drop (8 + p + (bv x).length) = bv (wait.drop (p + x.length)) ++ [.int .i64 n] := by
    rw [stm, bv_length, List.drop_append, List.drop_of_length_le (by omega), hu, show 8 + p + x.length - 8 = p + x.length from by omega, List.drop_append_of_le_length (by rw [bv_length]; omega), bv_drop]
    rfl
  rw [e1, e2, laid, stm, bv_append, bv_append]
  simp [List.append_assoc]
/-- What the bytes come to behind a part of them, if no block is whole. -/
theorem strm_same {w : World} {sb : Nat} {l x wait : List UInt8} (hw : wait.length = 64) (ht : wait.take (l.length % 64) = l.drop (64 * (l.length / 64))) (hx : l.length % 64 + x.length < 64)
    (hb : w.heap[sb]? = some (.cells (stm (Sha.hash l).list (laid wait (l.length % 64) x) ((l.length + x.length : Nat) : Int)).toArray 254 (0, 0))) : Strm w sb (l ++ x) := by
  have h1 : (l ++ x).length / 64 = l.length / 64 := by rw [List.length_append]; omega
  have h2 : (l ++ x).length % 64 = l.length % 64 + x.length := by rw [List.length_append]; omega
  refine ⟨laid wait (l.length % 64) x, ?_, laid_length hw (by omega), ?_⟩
  · rw [Sha.hash_same l x h1, List.length_append]
    exact hb
  · have e1 : (wait.take (l.length % 64)).length = l.length % 64 := by rw [List.length_take]; omega
    rw [h1, h2, List.drop_append_of_le_length (by omega), ← ht, laid, ← List.append_assoc, List.take_append_of_le_length (by rw [List.length_append]; omega), List.take_of_length_le (by rw [List.length_append]; omega)]
theorem laid_whole {l x wait : List UInt8} (hw : wait.length = 64) (ht : wait.take (l.length % 64) = l.drop (64 * (l.length / 64))) (hx : l.length % 64 + x.length = 64) : laid wait (l.length % 64) x = l.drop (64 * (l.length / 64)) ++ x := by
  have e : wait.drop 64 = [] := List.drop_of_length_le (by omega)
  rw [laid, ht, hx, e, List.append_nil]
theorem strm_next {w : World} {sb : Nat} {l x wait : List UInt8} (hw : wait.length = 64) (ht : wait.take (l.length % 64) = l.drop (64 * (l.length / 64))) (hx : l.length % 64 + x.length = 64)
    (hb : w.heap[sb]? = some (.cells (stm (Sha.block (Sha.hash l) (laid wait (l.length % 64) x)).list (laid wait (l.length % 64) x) ((l.length + x.length : Nat) : Int)).toArray 254 (0, 0))) : Strm w sb (l ++ x) := by
  have h1 : (l ++ x).length = 64 * (l.length / 64 + 1) := by rw [List.length_append]; omega
  refine ⟨laid wait (l.length % 64) x, ?_, laid_length hw (by omega), ?_⟩
  · rw [Sha.hash_next l x h1, ← laid_whole hw ht hx, List.length_append]
    exact hb
  · rw [show (l ++ x).length % 64 = 0 from by omega, List.take_zero, List.drop_of_length_le (by omega)]
section
variable {P : Program} {ops : Array Oper} {rest : List Oper} {o : Oper} {a : Act} {Q : Exit → Act → World → Prop} {t e : TypeId} {z : Value} {sz by_ : Nat}
/-- 'copy(row, s)', the row a part of a block of its own. -/
theorem copy_row {W : World} (hg : Region.wanted o (yielded ops a.tmps) = true) (d s : Operand) (dT sT : TypeId)
    (ho : o.op = .call { callee := .builtin .copy, args := #[d, s], argTypes := #[dT, sT] }) (hu : P.underlying dT = some (.slice e)) (hsz : (P.info? e).map (·.size) = some 1)
    (g off dLen dCap : Nat) (ad : Addr) (sLen sCap : Nat) (hd : a.eval d = .slice (some ⟨g, off, none⟩) dLen dCap) (hs : a.eval s = .slice (some ad) sLen sCap)
    (cur : Array Value) (T : TypeId) (hb : W.heap[g]? = some (.cells cur T (0, 0))) (cs : List Value) (hn : cs.length = Nat.min sLen dLen)
    (hsrc : ∀ j v, cs[j]? = some v → W.cell? (ad.add j) = some v) (hfit : off + cs.length ≤ cur.size) (h1 : ∀ v ∈ cs, v.oneCell' = true)
    (h : ∀ w', w'.heap[g]? = some (.cells (cur.toList.take off ++ (cs ++ cur.toList.drop (off + cs.length))).toArray T (0, 0)) → Keep (· = g) W w' → wpList P ops Q rest (a.put o.dst (goInt cs.length)) w') : wpList P ops Q (o :: rest) a W := by
  refine wpL hg fun K hK => ?_
  have hrun := run_copy_row (P := P) W dT sT o.type e g off dLen dCap ad sLen sCap cur T cs hu hsz hb hn hsrc hfit h1
  unfold Oper.wp
  simp [execOp, ho, resolve, invoke, builtin, hd, hs, hrun, Result.andThen]
  exact hK _ _ (h _ (setRow_block W hb) (setRow_keep W g _))
end
def lenOf : Value → Nat
  | .slice _ n _ => n
  | _ => 0
set_option maxRecDepth 100000 in
set_option maxHeartbeats 1600000 in
theorem write_any (sb : Nat) (l m : List UInt8) (w : World) (ao : Option Addr) (n c : Nat) (hsl : Sl w 1 ao n c (bv m)) (hstr : Strm w sb l) (hbig : l.length + m.length < 2 ^ 60) (hne : m ≠ [] → ∀ b, ao = some b → b.block ≠ sb) :
    Calls Try.prog 178 #[.pointer (some ⟨sb, 0, none⟩), .slice ao n c] w fun e w' => e = .returned (.tuple #[]) ∧ Strm w' sb (l ++ m) ∧ Keep (· = sb) w w' := by
  have hblock := Lib.hid block_any
  have h1 := Lib.hid hsl
  have h2 := Lib.hid hstr
  have h3 := Lib.hid hne
  clear hsl hstr hne
  go_enter Try.func178, Try.ntmps178
  go_wp2
  go_loopw [1] (fun v wr => ∃ l1 m1 ao' n' c', l1 ++ m1 = l ++ m ∧ v = .slice ao' n' c' ∧ Sl wr 1 ao' n' c' (bv m1) ∧ (m1 ≠ [] → ∀ b, ao' = some b → b.block ≠ sb) ∧ Strm wr sb l1 ∧ Keep (· = sb) w wr) (fun v _ => lenOf v)
  case atStart => exact ⟨l, m, ao, n, c, rfl, rfl, h1.out, h3.out, h2.out, Keep.refl⟩
  case round =>
    obtain ⟨l1, m1, ao', n', c', hlm, rfl, hsl, hne, hstr, hk⟩ := hrel
    have hn : m1.length = n' := by have := hsl.len; rw [bv_length] at this; omega
    by_cases hm : m1 = []
    · subst hm
      obtain rfl : n' = 0 := by simpa using hn.symm
      rw [List.append_nil] at hlm
      rw [hlm] at hstr
      replace hk := Lib.hid hk
      replace hstr := Lib.hid hstr
      replace hlm := Lib.hid hlm
      clear hsl hne
      go_wp2
      go_end0
      exact ⟨rfl, hstr.out, hk.out⟩
    · have hpos : 0 < n' := by have := List.length_pos_iff.2 hm; omega
      obtain ⟨bk, off, rfl, hbk, hcell⟩ := hsl.at (by intro h; exact hm (by simpa [bv] using h))
      have hne := hne hm
      have hbs := hne _ rfl
      simp only at hbs
      have hsb := hstr.lt
      obtain ⟨wait, hb1, hw, ht⟩ := hstr
      have c72 := (blk_cell hb1 72).trans (stm_n (list_len _) hw)
      have f72 := blk_frozen hb1 72
      have hlen : l1.length + m1.length < 2 ^ 60 := by
        have := congrArg List.length hlm
        rw [List.length_append, List.length_append] at this
        omega
      obtain ⟨N, hN⟩ : ∃ N, N = l1.length := ⟨_, rfl⟩
      rw [← hN] at c72 hlen ht hb1
      obtain ⟨p, hp⟩ : ∃ p, p = N % 64 := ⟨_, rfl⟩
      have hp64 : p < 64 := by omega
      have htm : (N : Int).tmod 64 = (p : Int) := by rw [Int.tmod_eq_emod_of_nonneg (by omega)]; omega
      have q0 : 0 ≤ (p : Int) := by omega
      have q1 : (p : Int) ≤ 64 := by omega
      rw [← hp] at ht
      replace hp := Lib.hid hp
      replace hN := Lib.hid hN
      have hcap := hsl.cap
      have hmost := hsl.most
      unfold maxLen at hmost
      replace hb1 := Lib.hid hb1
      replace hcell := Lib.hid hcell
      replace hsl := Lib.hid hsl
      replace hne := Lib.hid hne
      replace hk := Lib.hid hk
      replace ht := Lib.hid ht
      replace hlm := Lib.hid hlm
      replace hm := Lib.hid hm
      go_wp2
      go_still_tail 10, (by kernel_rfl)
      change wpList _ _ _ _ _ (World.drew _)
      rw [if_neg (by omega : ¬ 64 = p)]
      obtain ⟨x, hx⟩ : ∃ x, x = m1.take (64 - p) := ⟨_, rfl⟩
      have hxl : (bv x).length = Nat.min n' (64 - p) := by
        rw [bv_length, hx, List.length_take, hn, Nat.min_comm]
      have hx64 : p + x.length ≤ 64 := by
        rw [bv_length] at hxl
        rw [hxl]
        have : Nat.min n' (64 - p) ≤ 64 - p := Nat.min_le_right n' (64 - p)
        revert this
        generalize Nat.min n' (64 - p) = q
        omega
      have hsrc : ∀ j v, (bv x)[j]? = some v → wr.drew.cell? ((⟨bk, off, none⟩ : Addr).add j) = some v := by
        intro j v hj
        rw [hx, ← bv_take, List.getElem?_take] at hj
        split at hj
        · rw [Addr.add_mid]
          exact hcell.out j v hj
        · cases hj
      have hfit : 8 + p + (bv x).length ≤ (stm (Sha.hash l1).list wait (N : Int)).toArray.size := by
        rw [List.size_toArray, stm, bv_length]
        simp only [List.length_append, uvs_length, bv_length, hw, list_len, List.length_singleton]
        omega
      refine copy_row rfl _ _ _ _ rfl byT.under (by kernel_rfl) sb (8 + p) (64 - p) (64 - p) ⟨bk, off, none⟩ n' c' rfl rfl _ _ hb1.out (bv x) hxl hsrc hfit bv_cell ?_
      intro w2 hb2 hk2
      rw [List.toList_toArray, stm_laid (list_len _) hw hx64] at hb2
      have hkx : x.length ≤ n' := by
        rw [bv_length] at hxl
        rw [hxl]
        exact Nat.min_le_left _ _
      have hx0 : 0 < x.length := by
        rw [bv_length] at hxl
        rw [hxl]
        show 0 < min n' (64 - p)
        exact Nat.lt_min.2 ⟨hpos, by omega⟩
      have hk2 := (Keep.drew (p := (· = sb)) (w := wr)).trans hk2 (fun _ _ h => h)
      have hw2 := laid_length (x := x) hw hx64
      have c72b := (blk_cell hb2 72).trans (stm_n (list_len _) hw2)
      have f72b := blk_frozen hb2 72
      have hb3 := (blk_set (i := 72) (v := .int .i64 ((N + x.length : Nat) : Int)) hb2).trans (congrArg (fun c => some (Obj.cells c _ (0, 0))) (stm_set_n (list_len _) hw2))
      have hk3 := hk2.trans (Keep.setCell (p := (· = sb)) (a := ⟨sb, 72, none⟩) (.int .i64 ((N + x.length : Nat) : Int)) rfl) (fun _ _ h => h)
      have hsl3 := hsl.out.keep hk3 (fun b hb _ => hne.out b hb)
      have hxs : m1 = x ++ m1.drop x.length := by
        have e : m1.take x.length = x := by
          rw [hx, List.length_take, ← List.take_take, List.take_length]
        rw [← e]
        rw [e]
        exact (List.take_append_drop x.length m1).symm.trans (by rw [e])
      obtain ⟨K, hK⟩ : ∃ K, K = x.length := ⟨_, rfl⟩
      rw [bv_length, ← hK]
      rw [← hK] at hsl3 hk3 hb3 hkx hx0 hx64
      replace hK := Lib.hid hK
      replace hb2 := Lib.hid hb2
      replace hb3 := Lib.hid hb3
      replace hk3 := Lib.hid hk3
      replace hsl3 := Lib.hid hsl3
      replace hk2 := Lib.hid hk2
      replace hx := Lib.hid hx
      replace hxs := Lib.hid hxs
      replace hsrc := Lib.hid hsrc
      replace hfit := Lib.hid hfit
      replace hxl := Lib.hid hxl
      clear c72 f72
      obtain ⟨M, hM⟩ : ∃ M, M = N + K := ⟨_, rfl⟩
      rw [← hM] at hb3 hk3 hsl3
      have hMlt : M < 2 ^ 60 := by omega
      have hadd : (N : Int) + (K : Int) = (M : Int) := by omega
      have hwrap : IntKind.i64.wrap ((N : Int) + (K : Int)) = (M : Int) := by
        rw [hadd]
        exact IntWalk.i64_in _ ⟨by omega, by omega⟩
      have hNp := hp.out
      have hmod : M % 64 = (p + K) % 64 := by omega
      have hl3 : l1.length + x.length = M := by rw [← hN.out, ← hK.out, hM]
      clear hadd
      replace hM := Lib.hid hM
      replace hl3 := Lib.hid hl3
      clear hNp
      have hdrop : (bv m1).drop (K * 1) = bv (m1.drop x.length) := by rw [Nat.mul_one, bv_drop, hK.out]
      replace hdrop := Lib.hid hdrop
      have hp2 : l1.length % 64 = p := by rw [← hN.out]; exact hp.out.symm
      have ht2 : wait.take (l1.length % 64) = l1.drop (64 * (l1.length / 64)) := by rw [← hN.out, ← hp.out]; exact ht.out
      replace hp2 := Lib.hid hp2
      replace ht2 := Lib.hid ht2
      by_cases hfull : p + K = 64
      · have htm2 : (M : Int).tmod 64 = 0 := by rw [Int.tmod_eq_emod_of_nonneg (by omega)]; omega
        clear hmod
        go_wp2_with (refine slice_from rfl _ _ rfl byT rfl _ _ K rfl rfl hkx hsl3.out ?_; intro ao2 hsl4 hao2; rw [hdrop.out] at hsl4; replace hsl4 := Lib.hid hsl4; replace hao2 := Lib.hid hao2)
        refine (hblock.out sb _ _ _ _ hw2 hb3.out).mono ?_
        rintro e w4 ⟨rfl, hb4, hk4⟩
        replace hb4 := Lib.hid hb4
        replace hk4 := Lib.hid hk4
        go_wp2
        go_roundw
        case rel =>
          have hne2 : ∀ b', ao2 = some b' → b'.block ≠ sb := fun b' hb' => by
            obtain ⟨b, e1, e2⟩ := hao2.out b' hb'
            rw [e2]
            exact hne.out b e1
          refine ⟨l1 ++ x, m1.drop x.length, ao2, n' - K, c' - K, by rw [List.append_assoc, ← hxs.out]; exact hlm.out, rfl, hsl4.out.keep hk4.out (fun b hb _ => hne2 b hb), fun _ => hne2, ?_, (hk.out.trans hk3.out (fun _ _ h => h)).trans hk4.out (fun _ _ h => h)⟩
          refine strm_next hw ht2.out (by rw [hp2.out, ← hK.out]; exact hfull) ?_
          rw [hl3.out, hp2.out]
          exact hb4.out
        case measure => simp [lenOf]; omega
      · have htm2 : (M : Int).tmod 64 = ((p + K : Nat) : Int) := by rw [Int.tmod_eq_emod_of_nonneg (by omega)]; omega
        clear hmod
        have h0 : ¬ ((p + K : Nat) : Int) = 0 := by omega
        obtain ⟨r, hr⟩ : ∃ r, r = p + K := ⟨_, rfl⟩
        rw [← hr] at htm2 h0
        replace hr := Lib.hid hr
        go_wp2_with (refine slice_from rfl _ _ rfl byT rfl _ _ K rfl rfl hkx hsl3.out ?_; intro ao2 hsl4 hao2; rw [hdrop.out] at hsl4; replace hsl4 := Lib.hid hsl4; replace hao2 := Lib.hid hao2)
        go_roundw
        case rel =>
          have hne2 : ∀ b', ao2 = some b' → b'.block ≠ sb := fun b' hb' => by
            obtain ⟨b, e1, e2⟩ := hao2.out b' hb'
            rw [e2]
            exact hne.out b e1
          refine ⟨l1 ++ x, m1.drop x.length, ao2, n' - K, c' - K, by rw [List.append_assoc, ← hxs.out]; exact hlm.out, rfl, hsl4.out, fun _ => hne2, ?_, hk.out.trans hk3.out (fun _ _ h => h)⟩
          refine strm_same hw ht2.out (by rw [hp2.out, ← hK.out]; omega) ?_
          rw [hl3.out, hp2.out]
          exact hb3.out
        case measure => simp [lenOf]; omega
end Go.Proofs.Ytmacgmmjgdmleaa
