/-
  The digest's end.
-/
import Derived.Test.YtmacgmmjgdmleaaSha5
namespace Go.Proofs.Ytmacgmmjgdmleaa
open Go Go.RowKit
set_option linter.unusedSimpArgs false
set_option linter.unusedVariables false

theorem zeros_at (n : Nat) : (n + 1 + Sha.zeros n) % 64 = 56 := by
  unfold Sha.zeros
  omega
theorem zeros_lt (n : Nat) : Sha.zeros n < 64 := by
  unfold Sha.zeros
  omega
theorem one_sl (W : World) (x : UInt8) (e : TypeId) : Sl (W.alloc (.cells #[.int .u8 (x.toNat : Int)] e)) 1 (some ⟨W.heap.size, 0, none⟩) 1 1 (bv [x]) :=
  ⟨rfl, Nat.le_refl _, by unfold maxLen; omega, (fun h => by cases h), fun b hb => by cases hb; exact box_cells W (bv [x]) e⟩
theorem write_one (sb : Nat) (l : List UInt8) (x : UInt8) (W : World) (h : Strm W sb l) (hl : l.length < 2 ^ 59) :
    Calls Try.prog 178 #[.pointer (some ⟨sb, 0, none⟩), .slice (some ⟨W.heap.size, 0, none⟩) 1 1] (W.alloc (.cells #[.int .u8 (x.toNat : Int)] 5)) fun e w' => e = .returned (.tuple #[]) ∧ Strm w' sb (l ++ [x]) ∧ Keep (· = sb) W w' := by
  have hs : Same W (W.alloc (.cells #[.int .u8 (x.toNat : Int)] 5)) := Same.alloc Same.refl _
  have hlt := h.lt
  refine (write_any sb l [x] _ _ 1 1 (one_sl W x _) (h.same hs) (by simp; omega) (fun _ b hb => by cases hb; simp only; omega)).mono ?_
  rintro e w' ⟨h1, h2, h3⟩
  exact ⟨h1, h2, (Keep.of_same (p := (· = sb)) hs).trans h3 (fun _ _ h => h)⟩
theorem sl_of_row {w : World} {g n : Nat} {T : TypeId} {xs : List Value} (h : w.heap[g]? = some (.cells xs.toArray T (0, 0))) (hn : xs.length = n) (hm : n ≤ 2 ^ 60) : Sl w 1 (some ⟨g, 0, none⟩) n n xs :=
  ⟨by omega, Nat.le_refl _, by unfold maxLen; omega, (fun h => by cases h), fun b hb j u hu => by
    cases hb
    rw [add0, blk_cell h]
    simpa using hu⟩
def cellNat (w : World) (sb : Nat) : Nat := match w.cell? ⟨sb, 72, none⟩ with
  | some v => (intOf v).toNat
  | none => 0
theorem cellNat_of {w : World} {sb M : Nat} (h : w.cell? ⟨sb, 72, none⟩ = some (.int .i64 (M : Int))) : cellNat w sb = M := by
  unfold cellNat
  rw [h]
  simp [intOf]
set_option maxRecDepth 100000 in
set_option maxHeartbeats 1600000 in
theorem end_any (sb : Nat) (l : List UInt8) (w : World) (hstr : Strm w sb l) (hbig : l.length < 2 ^ 50) :
    Calls Try.prog 179 #[.pointer (some ⟨sb, 0, none⟩)] w fun e w' => e = .returned (.agg (bv (Sha.sum l)).toArray) ∧ Keep (· = sb) w w' := by
  have hsb := hstr.lt
  have hc : ∀ w' l, Strm w' sb l → w'.cell? ⟨sb, 72, none⟩ = some (.int .i64 (l.length : Int)) := by
    rintro w' l ⟨wait, h1, h2, _⟩
    exact (blk_cell h1 72).trans (stm_n (list_len _) h2)
  have hone := Lib.hid (write_one sb)
  obtain ⟨N, hN⟩ : ∃ N, N = l.length := ⟨_, rfl⟩
  rw [← hN] at hbig
  replace hstr := Lib.hid hstr
  replace hN := Lib.hid hN
  replace hc := Lib.hid hc
  go_enter Try.func179, Try.ntmps179
  go_wp2_with (refine alloc_new rfl 28 rfl (bv (List.replicate 32 0)).toArray (by kernel_rfl) ?_; intro w1 hd hs1; have hstr1 := hstr.out.same hs1; have c72 := hc.out _ _ hstr1; rw [← hN.out] at c72; replace hd := Lib.hid hd; replace hs1 := Lib.hid hs1; replace hstr1 := Lib.hid hstr1)
  refine (hone.out l 0x80 w1 hstr1.out (by rw [← hN.out]; omega)).mono ?_
  rintro e w2 ⟨rfl, hstr2, hk2⟩
  have hd2 := (hk2.block _ (blk_lt hd.out) (by omega)).trans hd.out
  have hk2 := (Keep.of_same (p := (· = sb)) hs1.out).trans hk2 (fun _ _ h => h)
  replace hd2 := Lib.hid hd2
  replace hstr2 := Lib.hid hstr2
  replace hk2 := Lib.hid hk2
  clear c72
  go_wp2
  go_loopw [] (fun wr => ∃ j, j ≤ Sha.zeros N ∧ Strm wr sb (l ++ [0x80] ++ List.replicate j 0) ∧ wr.heap[w.heap.size]? = some (.cells (bv (List.replicate 32 0)).toArray 28 (0, 0)) ∧ Keep (· = sb) w wr) (fun wr => N + 100 - cellNat wr sb)
  case atStart => exact ⟨0, Nat.zero_le _, by simpa using hstr2.out, hd2.out, hk2.out⟩
  case round =>
    obtain ⟨j, hj, hst, hdd, hk⟩ := hrel
    have hlen : (l ++ [128] ++ List.replicate j (0 : UInt8)).length = N + 1 + j := by
      rw [hN.out]
      simp
      omega
    have hsucc : l ++ [128] ++ List.replicate (j + 1) (0 : UInt8) = (l ++ [128] ++ List.replicate j 0) ++ [0] := by rw [List.replicate_succ', ← List.append_assoc]
    have cc := hc.out _ _ hst
    rw [hlen] at cc
    have hm := cellNat_of cc
    have hz := zeros_at N
    have hzl := zeros_lt N
    obtain ⟨L, hL⟩ : ∃ L, L = l ++ [128] ++ List.replicate j (0 : UInt8) := ⟨_, rfl⟩
    rw [← hL] at hst hlen hsucc
    obtain ⟨M, hM⟩ : ∃ M, M = N + 1 + j := ⟨_, rfl⟩
    rw [← hM] at cc hm hlen
    by_cases h56 : j = Sha.zeros N
    · have ht : (M : Int).tmod 64 = 56 := by rw [Int.tmod_eq_emod_of_nonneg (by omega)]; omega
      have hM52 : M < 2 ^ 52 := by omega
      clear hz hzl hj hm
      replace hst := Lib.hid hst
      replace hdd := Lib.hid hdd
      replace hk := Lib.hid hk
      replace hL := Lib.hid hL
      replace hlen := Lib.hid hlen
      replace hM := Lib.hid hM
      replace hsucc := Lib.hid hsucc
      have hwlt : w.heap.size ≤ wr.heap.size := hk.out.size
      have hsbr : sb < wr.heap.size := hst.out.lt
      go_wp2_with (refine make_new rfl 166 5 _ _ rfl 8 (bv (List.replicate 8 0)).toArray (by kernel_rfl) ?_; intro w3 ho3 hs3; replace ho3 := Lib.hid ho3; replace hs3 := Lib.hid hs3)
      obtain ⟨lb, hlb⟩ : ∃ lb, lb = wr.heap.size := ⟨_, rfl⟩
      rw [← hlb] at ho3
      rw [← hlb]
      replace hlb := Lib.hid hlb
      obtain ⟨F, hF⟩ : ∃ F : Nat → UInt8, F = fun i => UInt8.ofNat (8 * N / 2 ^ (56 - 8 * i)) := ⟨_, rfl⟩
      replace hF := Lib.hid hF
      go_loopw [27] (fun v wx => ∃ i : Nat, i ≤ 8 ∧ v = .int .i64 i ∧ wx.heap[lb]? = some (.cells (bv (fillb (gen F i) 8)).toArray 5 (0, 0)) ∧ Keep (· = lb) w3 wx) (fun v _ => 8 - (intOf v).toNat)
      case atStart => exact ⟨0, by omega, rfl, ho3.out, Keep.refl⟩
      case round =>
        obtain ⟨i, hi, rfl, hb, hk5⟩ := hrel
        by_cases hlt : i < 8
        · have f5 := blk_frozen hb i
          have c5 := (blk_cell hb i).trans (bv_at (l := fillb (gen F i) 8) (by rw [fillb_length _ _ (by rw [gen_length]; omega)]; omega))
          obtain ⟨y, hy⟩ : ∃ y, y = ((fillb (gen F i) 8).getD i 0).toNat := ⟨_, rfl⟩
          rw [← hy] at c5
          clear hy
          have g0 : 0 ≤ (i : Int) := by omega
          have g1 : (i : Int) < 8 := by omega
          obtain ⟨s, hs⟩ : ∃ s, s = 56 - 8 * i := ⟨_, rfl⟩
          have g2 : IntKind.i64.wrap (8 * (i : Int)) = 8 * (i : Int) := IntWalk.i64_in _ ⟨by omega, by omega⟩
          have g3 : 56 - 8 * (i : Int) = (s : Int) := by omega
          have g4 : s ≤ 56 := by omega
          replace hs := Lib.hid hs
          replace hb := Lib.hid hb
          replace hk5 := Lib.hid hk5
          go_wp2
          go_roundw
          case rel =>
            have hv : 8 * (N : Int) / 2 ^ s % 256 = ((F i).toNat : Int) := by
              have e : F i = UInt8.ofNat (8 * N / 2 ^ s) := by rw [hF.out, hs.out]
              rw [e, UInt8.toNat_ofNat']
              simp
            rw [hv]
            have hset := fillb_set (gen F i) 8 (F i) (by rw [gen_length]; exact hlt)
            rw [gen_length, ← gen_succ] at hset
            have hb6 := blk_set (i := i) (v := .int .u8 ((F i).toNat : Int)) hb.out
            rw [hset] at hb6
            exact ⟨i + 1, by omega, by go_num, hb6, hk5.out.trans (Keep.setCell (p := (· = lb)) _ rfl) (fun _ _ h => h)⟩
          case measure => simp [intOf]; omega
        · obtain rfl : i = 8 := by omega
          rw [fillb_full _ _ (gen_length F 8)] at hb
          have hge : gen F 8 = Sha.be8 (8 * N) := by rw [hF.out, be8_gen]
          rw [hge] at hb
          have hst5 := (hst.out.same hs3.out).keep hk5 (fun h => by have := hlb.out; omega)
          replace hst5 := Lib.hid hst5
          replace hb := Lib.hid hb
          replace hk5 := Lib.hid hk5
          have hsl6 := Lib.hid (sl_of_row (w := wr) hb.out (by rw [bv_length]; rfl) (by omega : 8 ≤ 2 ^ 60))
          have hne6 : sb ≠ lb := by have := hlb.out; omega
          go_wp2_with (fail)
          refine (write_any sb L (Sha.be8 (8 * N)) _ _ 8 8 hsl6.out hst5.out (by rw [hlen.out]; simp [Sha.be8]; omega) (fun _ b hb => by cases hb; exact Ne.symm hne6)).mono ?_
          rintro e w6 ⟨rfl, hst6, hk6⟩
          have hpad : L ++ Sha.be8 (8 * N) = Sha.pad l := by rw [hL.out, h56, hN.out]; rfl
          rw [hpad] at hst6
          obtain ⟨wait, hb6, hw6, _⟩ := hst6
          have hd3 := (hs3.out.block _ (blk_lt hdd.out)).trans hdd.out
          have hd5 := (hk5.out.block _ (blk_lt hd3) (by have := hlb.out; have := blk_lt hdd.out; omega)).trans hd3
          have hd6 := (hk6.block _ (blk_lt hd5) (by omega)).trans hd5
          have hk7 : Keep (· = sb) w w6 := ((hk.out.trans (Keep.of_same (p := (· = sb)) hs3.out) (fun _ _ h => h)).trans hk5.out (fun x hx h => by have := hlb.out; omega)).trans hk6 (fun _ _ h => h)
          obtain ⟨S, hS⟩ : ∃ S, S = Sha.hash (Sha.pad l) := ⟨_, rfl⟩
          have hsum : Sha.sum l = gen (Sha.byteOf S) 32 := by rw [hS, ← bytesOf_gen]; rfl
          rw [← hS] at hb6
          obtain ⟨db, hdb⟩ : ∃ db, db = w.heap.size := ⟨_, rfl⟩
          rw [← hdb] at hd6
          rw [← hdb]
          have hdsb : sb ≠ db := by omega
          replace hS := Lib.hid hS
          replace hdb := Lib.hid hdb
          replace hd6 := Lib.hid hd6
          replace hb6 := Lib.hid hb6
          replace hk6 := Lib.hid hk6
          replace hk7 := Lib.hid hk7
          replace hpad := Lib.hid hpad
          rw [show ((8 : Nat) : Int) = 8 from rfl]
          go_wp2
          go_loopw [43] (fun v wx => ∃ i : Nat, i ≤ 32 ∧ v = .int .i64 i ∧ wx.heap[db]? = some (.cells (bv (fillb (gen (Sha.byteOf S) i) 32)).toArray 28 (0, 0)) ∧ Keep (· = db) w6 wx) (fun v _ => 32 - (intOf v).toNat)
          case atStart => exact ⟨0, by omega, rfl, hd6.out, Keep.refl⟩
          case round =>
            clear hb hst5 hk5 hsl6
            obtain ⟨i, hi, rfl, hb, hk8⟩ := hrel
            by_cases hlt : i < 32
            · have f5 := blk_frozen hb i
              have c5 := (blk_cell hb i).trans (bv_at (l := fillb (gen (Sha.byteOf S) i) 32) (by rw [fillb_length _ _ (by rw [gen_length]; omega)]; omega))
              obtain ⟨y, hy⟩ : ∃ y, y = ((fillb (gen (Sha.byteOf S) i) 32).getD i 0).toNat := ⟨_, rfl⟩
              rw [← hy] at c5
              clear hy
              have hbs := (hk8.block sb (blk_lt hb6.out) hdsb).trans hb6.out
              obtain ⟨q, hq⟩ : ∃ q, q = i / 4 := ⟨_, rfl⟩
              obtain ⟨r, hr⟩ : ∃ r, r = i % 4 := ⟨_, rfl⟩
              obtain ⟨s, hs⟩ : ∃ s, s = 24 - 8 * r := ⟨_, rfl⟩
              have ch := (blk_cell hbs q).trans (stm_h (list_len S) (by omega))
              have hval : Sha.byteOf S i = UInt8.ofNat ((S.list.getD q 0).toNat / 2 ^ s) := by rw [hs, hr, hq]; rfl
              obtain ⟨x, hx⟩ : ∃ x, x = S.list.getD q 0 := ⟨_, rfl⟩
              rw [← hx] at ch hval
              have g0 : 0 ≤ (i : Int) := by omega
              have g1 : (i : Int) < 32 := by omega
              have t1 : (i : Int).tdiv 4 = (q : Int) := by rw [Int.tdiv_eq_ediv_of_nonneg (by omega)]; omega
              have t2 : (i : Int).tmod 4 = (r : Int) := by rw [Int.tmod_eq_emod_of_nonneg (by omega)]; omega
              have g2 : IntKind.i64.wrap (8 * (r : Int)) = 8 * (r : Int) := IntWalk.i64_in _ ⟨by omega, by omega⟩
              have g3 : 24 - 8 * (r : Int) = (s : Int) := by omega
              have g4 : s ≤ 24 := by omega
              have g5 : 0 ≤ (q : Int) := by omega
              have g6 : (q : Int) < 8 := by omega
              have g7 : (r : Int) < 4 := by omega
              replace hq := Lib.hid hq
              replace hr := Lib.hid hr
              replace hs := Lib.hid hs
              replace hx := Lib.hid hx
              replace hval := Lib.hid hval
              replace hb := Lib.hid hb
              replace hbs := Lib.hid hbs
              replace hk8 := Lib.hid hk8
              go_wp2
              go_roundw
              case rel =>
                have hv : (x.toNat : Int) / 2 ^ s % 256 = ((Sha.byteOf S i).toNat : Int) := by
                  rw [hval.out, UInt8.toNat_ofNat']
                  simp
                rw [hv]
                have hset := fillb_set (gen (Sha.byteOf S) i) 32 (Sha.byteOf S i) (by rw [gen_length]; exact hlt)
                rw [gen_length, ← gen_succ] at hset
                have hb9 := blk_set (i := i) (v := .int .u8 ((Sha.byteOf S i).toNat : Int)) hb.out
                rw [hset] at hb9
                exact ⟨i + 1, by omega, by go_num, hb9, hk8.out.trans (Keep.setCell (p := (· = db)) _ rfl) (fun _ _ h => h)⟩
              case measure => simp [intOf]; omega
            · obtain rfl : i = 32 := by omega
              rw [fillb_full _ _ (gen_length _ 32), ← hsum] at hb
              have hinf : (Try.prog.info? 28).map (·.size) = some (bv (Sha.sum l)).toArray.size := by
                rw [List.size_toArray, bv_length, Sha.sum_length]
                kernel_rfl
              have hone1 : (bv (Sha.sum l)).toArray.all (·.oneCell') = true := by simpa using bv_cell
              replace hinf := Lib.hid hinf
              replace hb := Lib.hid hb
              replace hk8 := Lib.hid hk8
              go_wp2_with (first | (refine load_row rfl _ _ rfl db rfl _ _ _ _ hb.out Try.underlying28 rfl hinf.out ?_) | (refine store_row rfl _ _ _ rfl db _ rfl rfl _ _ hb.out hinf.out rfl hone1 ?_; intro w9 hb9 hk9; replace hb9 := Lib.hid hb9))
              refine bodyPost_ret (v := .agg (bv (Sha.sum l)).toArray) (results_row (p := 2) (ty := 28) rfl _ _ db _ _ _ _ rfl hb9.out Try.underlying28 rfl hinf.out) rfl ?_
              exact ⟨rfl, (hk7.out.trans hk8.out (fun x hx h => by have := hdb.out; omega)).trans hk9 (fun x hx h => by have := hdb.out; omega)⟩
    · obtain ⟨r, hr⟩ : ∃ r, r = M % 64 := ⟨_, rfl⟩
      have ht : (M : Int).tmod 64 = (r : Int) := by rw [Int.tmod_eq_emod_of_nonneg (by omega)]; omega
      have hr0 : ¬ (r : Int) = 56 := by omega
      have hj1 : j + 1 ≤ Sha.zeros N := by omega
      have hM59 : M < 2 ^ 59 := by omega
      clear hz hzl hj h56
      replace hst := Lib.hid hst
      replace hdd := Lib.hid hdd
      replace hk := Lib.hid hk
      replace hL := Lib.hid hL
      replace hlen := Lib.hid hlen
      replace hM := Lib.hid hM
      replace hsucc := Lib.hid hsucc
      replace hr := Lib.hid hr
      replace hm := Lib.hid hm
      go_wp2_with (fail)
      refine (hone.out L 0 wr hst.out (by rw [hlen.out]; exact hM59)).mono ?_
      rintro e w4 ⟨rfl, hst4, hk4⟩
      have hd4 := (hk4.block _ (blk_lt hdd.out) (by omega)).trans hdd.out
      have hk5 := hk.out.trans hk4 (fun _ _ h => h)
      have cc4 := hc.out _ _ hst4
      have hm4 := cellNat_of cc4
      rw [← hsucc.out] at hst4
      clear cc4
      replace hm4 := Lib.hid hm4
      replace hk5 := Lib.hid hk5
      replace hd4 := Lib.hid hd4
      replace hst4 := Lib.hid hst4
      replace hk4 := Lib.hid hk4
      go_wp2
      go_roundw
      case rel => exact ⟨j + 1, hj1, hst4.out, hd4.out, hk5.out⟩
      case measure =>
        rw [hm4.out, hm.out, List.length_append, hlen.out]
        have := hM.out
        have := zeros_lt N
        simp
        omega
end Go.Proofs.Ytmacgmmjgdmleaa
