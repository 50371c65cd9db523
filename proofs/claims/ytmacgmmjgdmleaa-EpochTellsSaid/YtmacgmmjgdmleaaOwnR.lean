/-
  The document's answers of epochs: raddleref11.In, Owner; raddleref12.End, Owner, Primary, Slots, Bucket.
-/
import Derived.Test.YtmacgmmjgdmleaaOwnE
import Derived.Test.YtmacgmmjgdmleaaEpSlots
namespace Go.Proofs.Ytmacgmmjgdmleaa
open Go Go.RowKit
set_option linter.unusedSimpArgs false
set_option linter.unusedVariables false

set_option maxRecDepth 100000 in
set_option maxHeartbeats 1600000 in
theorem rin_any (ao : Option Addr) (len cap : Nat) (l : List Int) (n : Int) (w : World) (hsl : Sl w 1 ao len cap (iv l)) :
    Calls Try.prog 131 #[.slice ao len cap, .int .i64 n] w fun e w' => e = .returned (.bool (decide (n ∈ l))) ∧ Same w w' := by
  have hll : l.length = len := by have := hsl.len; rw [iv_length] at this; omega
  have hcap := hsl.cap
  have hmost := hsl.most
  unfold maxLen at hmost
  obtain ⟨R, hR⟩ : ∃ R, R = decide (n ∈ l) := ⟨_, rfl⟩
  rw [← hR]
  have hyes : ∀ k, k < len → l.getD k 0 = n → R = true := by
    intro k hk he
    rw [hR, decide_eq_true_iff, ← he]
    simp only [List.getD, List.getElem?_eq_getElem (show k < l.length by omega), Option.getD_some]
    exact List.getElem_mem _
  have hno : n ∉ l.take len → R = false := by
    intro h
    rw [List.take_of_length_le (by omega)] at h
    rw [hR, decide_eq_false h]
  have hnx : ∀ k, k < len → n ∉ l.take k → l.getD k 0 ≠ n → n ∉ l.take (k + 1) := by
    intro k hk h1 h2
    rw [List.take_succ_eq_append_getElem (by omega)]
    simp only [List.getD, List.getElem?_eq_getElem (show k < l.length by omega), Option.getD_some] at h2
    simp only [List.mem_append, List.mem_singleton, not_or]
    exact ⟨h1, fun h => h2 h.symm⟩
  replace hR := Lib.hid hR
  replace hyes := Lib.hid hyes
  replace hno := Lib.hid hno
  replace hnx := Lib.hid hnx
  replace hsl := Lib.hid hsl
  go_enter Try.func131, Try.ntmps131
  obtain ⟨w0, hw0⟩ : ∃ w0, w0 = w := ⟨_, rfl⟩
  have hs0 : Same w w0 := by rw [hw0]; exact Same.refl
  rw [← hw0]
  clear hw0
  replace hs0 := Lib.hid hs0
  go_wp2
  go_loopw [5] (fun i wr => ∃ k : Nat, k ≤ len ∧ i = .int .i64 k ∧ n ∉ l.take k ∧ Same w0 wr) (fun i _ => len - (intOf i).toNat)
  case atStart => exact ⟨0, by omega, rfl, by simp, Same.refl⟩
  case round =>
    obtain ⟨k, hk, rfl, hnt, hs⟩ := hrel
    by_cases hlt : k < len
    · obtain ⟨bk, off, rfl, _, hcell⟩ := hsl.out.at (by intro h2; rw [iv, List.map_eq_nil_iff] at h2; rw [h2] at hll; simp at hll; omega)
      have cc := (hs0.out.trans hs).cell (hcell k _ (iv_get (by omega)))
      have hx : l[k]'(by omega) = l.getD k 0 := by simp [List.getD, show k < l.length by omega]
      rw [hx] at cc
      have hy := hyes.out k hlt
      have hn := hnx.out k hlt hnt
      obtain ⟨x, hxe⟩ : ∃ x, x = l.getD k 0 := ⟨_, rfl⟩
      rw [← hxe] at cc hy hn
      have q0 : 0 ≤ (k : Int) := by omega
      have q1 : (k : Int) < (len : Int) := by omega
      clear hcell hx hxe hnt
      replace hs := Lib.hid hs
      by_cases hxn : x = n
      · have hR2 := hy hxn
        have hb : (x == n) = true := by simp [hxn]
        clear hy hn hxn
        replace hR2 := Lib.hid hR2
        go_wp2
        go_ret
        exact ⟨by rw [hR2.out]; rfl, hs.out⟩
      · have hn2 := hn hxn
        have hb : (x == n) = false := by simpa using hxn
        clear hy hn hxn
        replace hn2 := Lib.hid hn2
        go_wp2
        go_roundw
        case rel => exact ⟨k + 1, by omega, by go_num, hn2.out, hs.out⟩
        case measure => simp [intOf]; omega
    · obtain rfl : k = len := by omega
      have hR2 := hno.out hnt
      clear hnt
      replace hR2 := Lib.hid hR2
      go_wp2
      go_ret
      exact ⟨by rw [hR2.out]; rfl, hs⟩
set_option maxRecDepth 100000 in
set_option maxHeartbeats 800000 in
theorem reend_any (c : Cfg) (number start : Int) (ao : Option Addr) (cap : Nat) (l : List Int) (w : World) (hsl : Sl w 1 ao l.length cap (iv l)) :
    Calls Try.prog 61 #[.agg (epC c number start ao l.length cap).toArray] w fun e w' => e = .returned (.int .i64 (eend c number start l)) ∧ Same w w' := by
  have hinf := Lib.hid (rep_info c number start ao l.length cap)
  have hgd := fun w h => regood_any c number start ao l.length cap l w h
  unfold eend
  replace hsl := Lib.hid hsl
  cases hG : egood c number start l
  · rw [hG] at hgd
    replace hgd := Lib.hid hgd
    rw [if_neg (by simp)]
    clear hG
    go_enter Try.func61, Try.ntmps61
    go_upto_region 1 with (refine box_row rfl _ _ rfl _ rfl hinf.out ?_; intro w0 hbx hs0; replace hs0 := Lib.hid hs0; replace hbx := Lib.hid hbx)
    go_wp2_with (refine load_row rfl _ _ rfl w.heap.size rfl _ _ _ _ hbx.out Try.underlying125 rfl hinf.out ?_)
    refine (hgd.out _ (hsl.out.same hs0.out)).mono ?_
    rintro e w1 ⟨rfl, hs1⟩
    go_wp2
    go_ret
    exact ⟨rfl, hs0.out.trans hs1⟩
  · have hok := egood_ok hG
    rw [hG] at hgd
    replace hgd := Lib.hid hgd
    rw [if_pos (by simp)]
    have b1 := hok.b1
    have b2 := hok.b2
    have z1 := hok.z1
    have z2 := hok.z2
    obtain ⟨Z, hZ⟩ : ∃ Z, Z = esize c l := ⟨_, rfl⟩
    rw [← hZ] at b2 z1 z2 ⊢
    have hwm : IntKind.i64.wrap ((l.length : Int) * c.slots) = Z := by rw [hZ, esize]; exact IntWalk.i64_in _ ⟨by rw [esize] at hZ; omega, by rw [esize] at hZ; omega⟩
    have hwr : IntKind.i64.wrap (start + Z) = start + Z := IntWalk.i64_in _ ⟨by omega, by omega⟩
    have hc5 : c.list.getD 5 0 = c.slots := rfl
    clear hG hok hZ
    obtain ⟨S, hS⟩ : ∃ S, S = c.slots := ⟨_, rfl⟩
    rw [← hS] at hwm hc5
    replace hS := Lib.hid hS
    replace hwm := Lib.hid hwm
    replace hc5 := Lib.hid hc5
    obtain ⟨n, hn⟩ : ∃ n, n = l.length := ⟨_, rfl⟩
    rw [← hn] at hwm hinf hgd hsl ⊢
    replace hn := Lib.hid hn
    go_enter Try.func61, Try.ntmps61
    go_upto_region 1 with (refine box_row rfl _ _ rfl _ rfl hinf.out ?_; intro w0 hbx hs0; have hbxl := blk_lt hbx; replace hs0 := Lib.hid hs0; replace hbx := Lib.hid hbx)
    go_wp2_with (refine load_row rfl _ _ rfl w.heap.size rfl _ _ _ _ hbx.out Try.underlying125 rfl hinf.out ?_)
    refine (hgd.out _ (hsl.out.same hs0.out)).mono ?_
    rintro e w1 ⟨rfl, hs1⟩
    have hbx1 := (hs1.block _ hbxl).trans hbx.out
    have hw1 := hs0.out.trans hs1
    have e1 := ep_start hbx1
    have e2 := ep_leaders hbx1
    have e3 := ep_cell hbx1 5 (by omega)
    rw [hc5.out] at e3
    clear hs1 hs0 hbx hbx1 hbxl
    replace hw1 := Lib.hid hw1
    have hwm' := hwm.out
    clear b1 b2 z1 z2
    go_wp2
    go_ret
    exact ⟨rfl, hw1.out⟩
set_option maxRecDepth 100000 in
set_option maxHeartbeats 3200000 in
theorem rlowner_any (c : Cfg) (n : Int) (ao : Option Addr) (len cap : Nat) (l : List Int) (b : Int) (w : World) (hsl : Sl w 1 ao len cap (iv l)) :
    Calls Try.prog 133 #[.agg c.cells.toArray, .int .i64 n, .slice ao len cap, .int .i64 b] w fun e w' => e = .returned (.int .i64 (lowner c n l b)) ∧ Same w w' := by
  have hinfC := Lib.hid (cfg_info c)
  have hm := fun w => rmay_any c n w
  have g3 : c.cells.toArray[3]? = some (.int .i64 c.buckets) := rfl
  have g0 : c.cells.toArray[0]? = some (.int .i64 c.nodes) := rfl
  replace hsl := Lib.hid hsl
  by_cases hg : c.may n = true ∧ 0 ≤ b ∧ b < c.buckets
  · have hmm := hg.1
    rw [hmm] at hm
    have hb0 := hg.2.1
    have hb1 := hg.2.2
    have hin := fun x w h => rin_any ao len cap l x w h
    obtain ⟨k1, k2, k3, k4, k5⟩ := c.may_in n hmm
    obtain ⟨N, hN⟩ : ∃ N : Nat, c.nodes = (N : Int) := ⟨c.nodes.toNat, by omega⟩
    have hres : lowner c n l b = ((turnOf (b + n) N N).find? (fun x => decide (x ∈ l))).getD (-1) := by rw [lowner, if_pos ⟨hmm, hb0, hb1⟩, hN, Int.toNat_natCast]
    obtain ⟨R, hR⟩ : ∃ R, R = lowner c n l b := ⟨_, rfl⟩
    rw [← hR] at hres ⊢
    rw [hN] at g0
    obtain ⟨CS, hCS⟩ : ∃ CS, CS = c.cells.toArray := ⟨_, rfl⟩
    rw [← hCS] at hm hinfC g3 g0 ⊢
    obtain ⟨B, hBe⟩ : ∃ B, B = c.buckets := ⟨_, rfl⟩
    rw [← hBe] at hb1 g3 k5
    rw [hN] at k1 k2 k5
    have hs : IntKind.i64.wrap (b + n) = b + n := IntWalk.i64_in _ ⟨by omega, by omega⟩
    have d1 : (b < 0) = False := by simp; omega
    have d2 : decide (B ≤ b) = false := by simp; omega
    clear hg hmm hCS hBe hR hN
    replace hm := Lib.hid hm
    replace hin := Lib.hid hin
    replace hres := Lib.hid hres
    go_enter Try.func133, Try.ntmps133
    go_upto_region 1 with (refine box_row rfl _ _ rfl _ rfl hinfC.out ?_; intro w0 hbx hs0; have hbxl := blk_lt hbx; replace hs0 := Lib.hid hs0; replace hbx := Lib.hid hbx)
    go_wp2_with (refine load_row rfl _ _ rfl w.heap.size rfl _ _ _ _ hbx.out Try.underlying68 rfl hinfC.out ?_)
    refine (hm.out _).mono ?_
    rintro e w1 ⟨rfl, hs1⟩
    have hbx1 := (hs1.block _ hbxl).trans hbx.out
    have c3 := (blk_cell hbx1 3).trans g3
    have c0 := (blk_cell hbx1 0).trans g0
    have hw1 := Lib.hid (hs0.out.trans hs1)
    clear hs0 hs1 hbx hbx1 g3 g0
    go_wp2
    clear c3
    replace c0 := Lib.hid c0
    go_loopw [9] (fun i wr => ∃ k : Nat, k ≤ N ∧ i = .int .i64 k ∧ (∀ y ∈ turnOf (b + n) N k, y ∉ l) ∧ Same w1 wr) (fun i _ => N - (intOf i).toNat)
    case atStart => exact ⟨0, by omega, rfl, by simp [turnOf], Same.refl⟩
    case round =>
      obtain ⟨k, hk, rfl, hnt, hsr⟩ := hrel
      have c0r := hsr.cell c0.out
      by_cases hlt : k < N
      · obtain ⟨x, hx⟩ : ∃ x, x = (b + n + (k : Int)) % (N : Int) := ⟨_, rfl⟩
        have hz : ((N : Int) == 0) = false := by simp; omega
        have hs1 : IntKind.i64.wrap (b + n + (k : Int)) = b + n + k := IntWalk.i64_in _ ⟨by omega, by omega⟩
        have hmd : (b + n + (k : Int)).tmod (N : Int) = x := by rw [hx, Int.tmod_eq_emod_of_nonneg (by omega)]
        have hxlt : x < (N : Int) := by rw [hx]; exact Int.emod_lt_of_pos _ (by omega)
        have hxge : 0 ≤ x := by rw [hx]; exact Int.emod_nonneg _ (by omega)
        have hwx : IntKind.i64.wrap x = x := IntWalk.i64_in _ ⟨by omega, by omega⟩
        have hsu := turnOf_succ (b + n) N k
        rw [← hx] at hsu
        have hi := hin.out x wr (hsl.out.same (hw1.out.trans hsr))
        have hpre := turnOf_prefix (b + n) N (Nat.succ_le_of_lt hlt)
        rw [Nat.succ_eq_add_one, hsu] at hpre
        clear hx
        replace hsu := Lib.hid hsu
        replace hpre := Lib.hid hpre
        have hsz := hsr.size
        replace hsr := Lib.hid hsr
        replace hnt := Lib.hid hnt
        by_cases hxl : x ∈ l
        · have hRx := Lib.hid (hres.out.trans (turn_hit hpre.out hnt.out hxl))
          rw [decide_eq_true hxl] at hi
          replace hi := Lib.hid hi
          clear hxl
          go_wp2_with fail
          refine hi.out.mono ?_
          rintro e w3 ⟨rfl, hs3⟩
          go_wp2
          go_ret
          exact ⟨by rw [hRx.out]; rfl, (hw1.out.trans hsr.out).trans hs3⟩
        · have hnn : ∀ y ∈ turnOf (b + n) N (k + 1), y ∉ l := by
            rw [hsu.out]
            intro y hy
            rcases List.mem_append.1 hy with h | h
            · exact hnt.out y h
            · rw [List.mem_singleton.1 h]; exact hxl
          rw [decide_eq_false hxl] at hi
          replace hi := Lib.hid hi
          replace hnn := Lib.hid hnn
          clear hxl
          go_wp2_with fail
          refine hi.out.mono ?_
          rintro e w3 ⟨rfl, hs3⟩
          go_wp2
          go_roundw
          case rel => exact ⟨k + 1, by omega, by go_num, hnn.out, hsr.out.trans hs3⟩
          case measure => simp [intOf]; omega
      · obtain rfl : k = N := by omega
        have hRx := Lib.hid (hres.out.trans (turn_none hnt))
        clear hnt
        replace hsr := Lib.hid hsr
        go_wp2
        go_ret
        exact ⟨by rw [hRx.out]; rfl, hw1.out.trans hsr.out⟩
  · rw [lowner, if_neg hg]
    obtain ⟨CS, hCS⟩ : ∃ CS, CS = c.cells.toArray := ⟨_, rfl⟩
    rw [← hCS] at hm hinfC g3 ⊢
    clear hCS g0
    obtain ⟨B, hBe⟩ : ∃ B, B = c.buckets := ⟨_, rfl⟩
    rw [← hBe] at hg g3
    have h3 : c.may n = false ∨ (c.may n = true ∧ 0 ≤ b ∧ B ≤ b) ∨ (c.may n = true ∧ b < 0) := by
      cases hc : c.may n
      · exact .inl rfl
      · rw [hc] at hg
        by_cases h0 : 0 ≤ b
        · exact .inr (.inl ⟨rfl, h0, by by_cases h1 : b < B; exact absurd ⟨rfl, h0, h1⟩ hg; omega⟩)
        · exact .inr (.inr ⟨rfl, by omega⟩)
    clear hg hBe
    rcases h3 with hc | ⟨hc, h0, h1⟩ | ⟨hc, h0⟩
    all_goals
      rw [hc] at hm
      have d1 : True := trivial
      first
        | (have d1 : (b < 0) = False := by simp; omega
           have d2 : decide (B ≤ b) = true := by simp; omega)
        | (have d1 : (b < 0) = True := by simp; omega)
        | skip
      clear hc
      try clear h1
      try clear h0
      replace hm := Lib.hid hm
      go_enter Try.func133, Try.ntmps133
      go_upto_region 1 with (refine box_row rfl _ _ rfl _ rfl hinfC.out ?_; intro w0 hbx hs0; have hbxl := blk_lt hbx; replace hs0 := Lib.hid hs0; replace hbx := Lib.hid hbx)
      go_wp2_with (refine load_row rfl _ _ rfl w.heap.size rfl _ _ _ _ hbx.out Try.underlying68 rfl hinfC.out ?_)
      refine (hm.out _).mono ?_
      rintro e w1 ⟨rfl, hs3⟩
      have b3 := (hs3.block _ hbxl).trans hbx.out
      have c3 := (blk_cell b3 3).trans g3
      have hw3 := hs0.out.trans hs3
      clear hs3 b3
      go_wp2
      go_ret
      exact ⟨rfl, hw3⟩
set_option maxRecDepth 100000 in
set_option maxHeartbeats 1600000 in
theorem rebucket_any (c : Cfg) (number start : Int) (ao : Option Addr) (cap : Nat) (l : List Int) (client num : Int) (w : World) (hsl : Sl w 1 ao l.length cap (iv l)) (hb1 : client ≤ 9223372036854775807) (hb2 : num ≤ 9223372036854775807) :
    Calls Try.prog 70 #[.agg (epC c number start ao l.length cap).toArray, .int .i64 client, .int .i64 num] w fun e w' => e = .returned (.int .i64 (ebucket c number start l client num)) ∧ Same w w' := by
  have hinf := Lib.hid (rep_info c number start ao l.length cap)
  have hinfL := Lib.hid (cfg_infoL c)
  have hgd := fun w h => regood_any c number start ao l.length cap l w h
  have hbk := fun w => rqrbucket_any w client num c.buckets hb1 hb2
  have how := fun b w h => rlowner_any c number ao l.length cap l b w h
  have hc3 : c.list.getD 3 0 = c.buckets := rfl
  unfold ebucket
  obtain ⟨B, hB⟩ : ∃ B, B = c.buckets := ⟨_, rfl⟩
  rw [← hB] at hbk hc3 ⊢
  obtain ⟨K, hK⟩ : ∃ K, K = reqBucket client num B := ⟨_, rfl⟩
  rw [← hK] at hbk ⊢
  replace how := how K
  obtain ⟨R, hR⟩ : ∃ R, R = lowner c number l K := ⟨_, rfl⟩
  rw [← hR] at how ⊢
  clear hR hK hB
  replace how := Lib.hid how
  replace hbk := Lib.hid hbk
  replace hsl := Lib.hid hsl
  replace hc3 := Lib.hid hc3
  cases hG : egood c number start l
  · rw [hG] at hgd
    rw [if_neg (by simp)]
    replace hgd := Lib.hid hgd
    clear hG
    go_enter Try.func70, Try.ntmps70
    go_upto_region 1 with (refine box_row rfl _ _ rfl _ rfl hinf.out ?_; intro w0 hbx hs0; replace hs0 := Lib.hid hs0; replace hbx := Lib.hid hbx)
    go_wp2_with (refine load_row rfl _ _ rfl w.heap.size rfl _ _ _ _ hbx.out Try.underlying125 rfl hinf.out ?_)
    refine (hgd.out _ (hsl.out.same hs0.out)).mono ?_
    rintro e w1 ⟨rfl, hs1⟩
    go_wp2
    go_ret
    exact ⟨rfl, hs0.out.trans hs1⟩
  rw [hG] at hgd
  replace hgd := Lib.hid hgd
  clear hG
  by_cases h1 : client < 0
  · have d1 : (client < 0) = True := by simp; omega
    rw [if_neg (by omega)]
    clear h1
    go_enter Try.func70, Try.ntmps70
    go_upto_region 1 with (refine box_row rfl _ _ rfl _ rfl hinf.out ?_; intro w0 hbx hs0; replace hs0 := Lib.hid hs0; replace hbx := Lib.hid hbx)
    go_wp2_with (refine load_row rfl _ _ rfl w.heap.size rfl _ _ _ _ hbx.out Try.underlying125 rfl hinf.out ?_)
    refine (hgd.out _ (hsl.out.same hs0.out)).mono ?_
    rintro e w1 ⟨rfl, hs1⟩
    go_wp2
    go_ret
    exact ⟨rfl, hs0.out.trans hs1⟩
  by_cases h2 : num < 0
  · have d1 : (client < 0) = False := by simp; omega
    have d2 : (num < 0) = True := by simp; omega
    have d3 : decide (num < 0) = true := by simp; omega
    rw [if_neg (by omega)]
    clear h1 h2
    go_enter Try.func70, Try.ntmps70
    go_upto_region 1 with (refine box_row rfl _ _ rfl _ rfl hinf.out ?_; intro w0 hbx hs0; replace hs0 := Lib.hid hs0; replace hbx := Lib.hid hbx)
    go_wp2_with (refine load_row rfl _ _ rfl w.heap.size rfl _ _ _ _ hbx.out Try.underlying125 rfl hinf.out ?_)
    refine (hgd.out _ (hsl.out.same hs0.out)).mono ?_
    rintro e w1 ⟨rfl, hs1⟩
    go_wp2
    go_ret
    exact ⟨rfl, hs0.out.trans hs1⟩
  · have d1 : (client < 0) = False := by simp; omega
    have d2 : (num < 0) = False := by simp; omega
    have d3 : decide (num < 0) = false := by simp; omega
    rw [if_pos (by refine ⟨rfl, ?_, ?_⟩ <;> omega)]
    clear h1 h2
    go_enter Try.func70, Try.ntmps70
    go_upto_region 1 with (refine box_row rfl _ _ rfl _ rfl hinf.out ?_; intro w0 hbx hs0; have hbxl := blk_lt hbx; replace hs0 := Lib.hid hs0; replace hbx := Lib.hid hbx)
    go_wp2_with (refine load_row rfl _ _ rfl w.heap.size rfl _ _ _ _ hbx.out Try.underlying125 rfl hinf.out ?_)
    refine (hgd.out _ (hsl.out.same hs0.out)).mono ?_
    rintro e w1 ⟨rfl, hs1⟩
    have hbx1 := (hs1.block _ hbxl).trans hbx.out
    have hw1 := hs0.out.trans hs1
    have hsl1 := hsl.out.same hw1
    have e1 := ep_number hbx1
    have e2 := ep_leaders hbx1
    have e3 := ep_cell hbx1 3 (by omega)
    rw [hc3.out] at e3
    have hrg := ep_cfg hbx1
    have hbx1l := blk_lt hbx1
    clear hs1 hs0 hbx hbx1
    replace hw1 := Lib.hid hw1
    replace hsl1 := Lib.hid hsl1
    replace e1 := Lib.hid e1
    replace e2 := Lib.hid e2
    replace e3 := Lib.hid e3
    replace hrg := Lib.hid hrg
    go_upto_region 3 with fail
    refine wp_region_tails (by kernel_rfl) [(18, 0), (19, 1), (20, 2), (21, 3), (22, 4), (23, 5), (24, 6), (25, 7), (26, 8), (27, 9), (28, 10), (29, 11), (30, 12)] Same (Same _) [isV (.pointer (some ⟨w.heap.size, 0, none⟩)), isV (.agg c.cells.toArray), isV (.pointer (some ⟨w.heap.size, 10, none⟩)), isV (.int .i64 number), isV (.pointer (some ⟨w.heap.size, 12, none⟩)), isV (.slice ao l.length cap), isV (.int .i64 client), isV (.int .i64 num), isV (.pointer (some ⟨w.heap.size, 0, none⟩)), isV (.pointer (some ⟨w.heap.size, 3, none⟩)), isV (.int .i64 B), isV (.int .i64 K), isV (.int .i64 R)] Same.refl.drew (fun _ _ h k => h.trans k) (by simp [isV_stable, isB_stable, isAny_stable]) (by decide) (l := [_, _, _, _, _, _, _, _, _, _, _, _, _]) rfl (by decide) (by kernel_rfl) ?_ ?_
    · refine ⟨?_, ?_, ?_, ?_, ?_, ?_, ?_, ?_, ?_, ?_, ?_, ?_, ?_, trivial⟩
      all_goals (intro u wx hI hp; simp only [mkAct, List.foldl_cons, List.foldl_nil, List.setIfInBounds_toArray, List.set_cons_succ, List.set_cons_zero])
      · -- operation 0
        go_wp2
        refine stq_v rfl Same.refl ?_
        first | (simp only [mkAct, List.foldl_cons, List.foldl_nil, List.setIfInBounds_toArray, List.set_cons_succ, List.set_cons_zero, upd, reduceIte, Nat.reduceEqDiff, Nat.reduceAdd, str]; done) | (simp [mkAct, upd, str, *]; done)
      · -- operation 1
        obtain ⟨f0, -⟩ := hp
        replace f0 : u 0 = (.pointer (some ⟨w.heap.size, 0, none⟩)) := f0
        try simp only [f0, str]
        go_wp2_with (refine load_mid rfl _ _ rfl w.heap.size 0 rfl c.cells _ (hI.range hrg.out) Try.underlying68 rfl hinfL.out ?_)
        refine stq_v rfl Same.refl ?_
        first | (simp only [mkAct, List.foldl_cons, List.foldl_nil, List.setIfInBounds_toArray, List.set_cons_succ, List.set_cons_zero, upd, reduceIte, Nat.reduceEqDiff, Nat.reduceAdd, f0, str]; done) | (simp [mkAct, upd, f0, str, *]; done)
      · -- operation 2
        go_wp2
        refine stq_v rfl Same.refl ?_
        first | (simp only [mkAct, List.foldl_cons, List.foldl_nil, List.setIfInBounds_toArray, List.set_cons_succ, List.set_cons_zero, upd, reduceIte, Nat.reduceEqDiff, Nat.reduceAdd, str]; done) | (simp [mkAct, upd, str, *]; done)
      · -- operation 3
        obtain ⟨f2, -⟩ := hp
        replace f2 : u 2 = (.pointer (some ⟨w.heap.size, 10, none⟩)) := f2
        try simp only [f2, str]
        have cx := hI.cell (e1.out)
        go_wp2
        refine stq_v rfl Same.refl ?_
        first | (simp only [mkAct, List.foldl_cons, List.foldl_nil, List.setIfInBounds_toArray, List.set_cons_succ, List.set_cons_zero, upd, reduceIte, Nat.reduceEqDiff, Nat.reduceAdd, f2, str]; done) | (simp [mkAct, upd, f2, str, *]; done)
      · -- operation 4
        go_wp2
        refine stq_v rfl Same.refl ?_
        first | (simp only [mkAct, List.foldl_cons, List.foldl_nil, List.setIfInBounds_toArray, List.set_cons_succ, List.set_cons_zero, upd, reduceIte, Nat.reduceEqDiff, Nat.reduceAdd, str]; done) | (simp [mkAct, upd, str, *]; done)
      · -- operation 5
        obtain ⟨f4, -⟩ := hp
        replace f4 : u 4 = (.pointer (some ⟨w.heap.size, 12, none⟩)) := f4
        try simp only [f4, str]
        have cx := hI.cell (e2.out)
        go_wp2
        refine stq_v rfl Same.refl ?_
        first | (simp only [mkAct, List.foldl_cons, List.foldl_nil, List.setIfInBounds_toArray, List.set_cons_succ, List.set_cons_zero, upd, reduceIte, Nat.reduceEqDiff, Nat.reduceAdd, f4, str]; done) | (simp [mkAct, upd, f4, str, *]; done)
      · -- operation 6
        go_wp2
        refine stq_v rfl Same.refl ?_
        first | (simp only [mkAct, List.foldl_cons, List.foldl_nil, List.setIfInBounds_toArray, List.set_cons_succ, List.set_cons_zero, upd, reduceIte, Nat.reduceEqDiff, Nat.reduceAdd, str]; done) | (simp [mkAct, upd, str, *]; done)
      · -- operation 7
        go_wp2
        refine stq_v rfl Same.refl ?_
        first | (simp only [mkAct, List.foldl_cons, List.foldl_nil, List.setIfInBounds_toArray, List.set_cons_succ, List.set_cons_zero, upd, reduceIte, Nat.reduceEqDiff, Nat.reduceAdd, str]; done) | (simp [mkAct, upd, str, *]; done)
      · -- operation 8
        go_wp2
        refine stq_v rfl Same.refl ?_
        first | (simp only [mkAct, List.foldl_cons, List.foldl_nil, List.setIfInBounds_toArray, List.set_cons_succ, List.set_cons_zero, upd, reduceIte, Nat.reduceEqDiff, Nat.reduceAdd, str]; done) | (simp [mkAct, upd, str, *]; done)
      · -- operation 9
        obtain ⟨f8, -⟩ := hp
        replace f8 : u 8 = (.pointer (some ⟨w.heap.size, 0, none⟩)) := f8
        try simp only [f8, str]
        go_wp2
        refine stq_v rfl Same.refl ?_
        first | (simp only [mkAct, List.foldl_cons, List.foldl_nil, List.setIfInBounds_toArray, List.set_cons_succ, List.set_cons_zero, upd, reduceIte, Nat.reduceEqDiff, Nat.reduceAdd, f8, str]; done) | (simp [mkAct, upd, f8, str, *]; done)
      · -- operation 10
        obtain ⟨f9, -⟩ := hp
        replace f9 : u 9 = (.pointer (some ⟨w.heap.size, 3, none⟩)) := f9
        try simp only [f9, str]
        have cx := hI.cell (e3.out)
        go_wp2
        refine stq_v rfl Same.refl ?_
        first | (simp only [mkAct, List.foldl_cons, List.foldl_nil, List.setIfInBounds_toArray, List.set_cons_succ, List.set_cons_zero, upd, reduceIte, Nat.reduceEqDiff, Nat.reduceAdd, f9, str]; done) | (simp [mkAct, upd, f9, str, *]; done)
      · -- operation 11
        obtain ⟨f6, f7, f10, -⟩ := hp
        replace f6 : u 6 = (.int .i64 client) := f6
        replace f7 : u 7 = (.int .i64 num) := f7
        replace f10 : u 10 = (.int .i64 B) := f10
        try simp only [f6, f7, f10, str]
        go_wp2_with fail
        refine (hbk.out _).mono ?_
        rintro e w1 ⟨rfl, hs'⟩
        go_wp2
        refine stq_v rfl hs' ?_
        first | (simp only [mkAct, List.foldl_cons, List.foldl_nil, List.setIfInBounds_toArray, List.set_cons_succ, List.set_cons_zero, upd, reduceIte, Nat.reduceEqDiff, Nat.reduceAdd, f6, f7, f10, str]; done) | (simp [mkAct, upd, f6, f7, f10, str, *]; done)
      · -- operation 12
        obtain ⟨f1, f3, f5, f11, -, -⟩ := hp
        replace f1 : u 1 = (.agg c.cells.toArray) := f1
        replace f3 : u 3 = (.int .i64 number) := f3
        replace f5 : u 5 = (.slice ao l.length cap) := f5
        replace f11 : u 11 = (.int .i64 K) := f11
        try simp only [f1, f3, f5, f11, str]
        go_wp2_with fail
        refine (how.out _ (hsl1.out.same hI)).mono ?_
        rintro e w1 ⟨rfl, hs'⟩
        go_wp2
        refine stq_v rfl hs' ?_
        first | (simp only [mkAct, List.foldl_cons, List.foldl_nil, List.setIfInBounds_toArray, List.set_cons_succ, List.set_cons_zero, upd, reduceIte, Nat.reduceEqDiff, Nat.reduceAdd, f1, f3, f5, f11, str]; done) | (simp [mkAct, upd, f1, f3, f5, f11, str, *]; done)
    · intro u wx hI hR
      obtain ⟨r0, r1, r2, r3, r4, r5, r6, r7, r8, r9, r10, r11, r12, -⟩ := hR
      replace r0 : u 0 = (.pointer (some ⟨w.heap.size, 0, none⟩)) := r0
      replace r1 : u 1 = (.agg c.cells.toArray) := r1
      replace r2 : u 2 = (.pointer (some ⟨w.heap.size, 10, none⟩)) := r2
      replace r3 : u 3 = (.int .i64 number) := r3
      replace r4 : u 4 = (.pointer (some ⟨w.heap.size, 12, none⟩)) := r4
      replace r5 : u 5 = (.slice ao l.length cap) := r5
      replace r6 : u 6 = (.int .i64 client) := r6
      replace r7 : u 7 = (.int .i64 num) := r7
      replace r8 : u 8 = (.pointer (some ⟨w.heap.size, 0, none⟩)) := r8
      replace r9 : u 9 = (.pointer (some ⟨w.heap.size, 3, none⟩)) := r9
      replace r10 : u 10 = (.int .i64 B) := r10
      replace r11 : u 11 = (.int .i64 K) := r11
      replace r12 : u 12 = (.int .i64 R) := r12
      simp only [mkAct, List.foldl_cons, List.foldl_nil, List.setIfInBounds_toArray, List.set_cons_succ, List.set_cons_zero]
      try simp only [str, r0, r1, r2, r3, r4, r5, r6, r7, r8, r9, r10, r11, r12]
      go_wp2
      go_ret
      exact ⟨rfl, hw1.out.trans hI⟩
set_option maxRecDepth 100000 in
set_option maxHeartbeats 1600000 in
theorem reowner_any (c : Cfg) (number start : Int) (ao : Option Addr) (cap : Nat) (l : List Int) (slot : Int) (w : World) (hsl : Sl w 1 ao l.length cap (iv l)) (hb1 : slot ≤ 9223372036854775807) (hb2 : -9223372036854775808 ≤ slot) :
    Calls Try.prog 63 #[.agg (epC c number start ao l.length cap).toArray, .int .i64 slot] w fun e w' => e = .returned (.int .i64 (eowner c number start l slot)) ∧ Same w w' := by
  have hinf := Lib.hid (rep_info c number start ao l.length cap)
  have hgd := fun w h => regood_any c number start ao l.length cap l w h
  have hen := fun w h => reend_any c number start ao cap l w h
  unfold eowner
  unfold eend at hen
  replace hsl := Lib.hid hsl
  cases hG : egood c number start l
  · rw [hG] at hgd
    rw [if_neg (by simp)]
    replace hgd := Lib.hid hgd
    clear hG hen
    go_enter Try.func63, Try.ntmps63
    go_upto_region 1 with (refine box_row rfl _ _ rfl _ rfl hinf.out ?_; intro w0 hbx hs0; have hbxl := blk_lt hbx; replace hs0 := Lib.hid hs0; replace hbx := Lib.hid hbx)
    go_wp2_with (refine load_row rfl _ _ rfl w.heap.size rfl _ _ _ _ hbx.out Try.underlying125 rfl hinf.out ?_)
    refine (hgd.out _ (hsl.out.same hs0.out)).mono ?_
    rintro e w1 ⟨rfl, hs1⟩
    go_wp2
    go_ret
    exact ⟨rfl, hs0.out.trans hs1⟩
  have hok := egood_ok hG
  rw [hG] at hgd hen
  rw [if_pos (by simp)] at hen
  have b2 := hok.b2
  have z2 := hok.z2
  have z1 := hok.z1
  have s1 := hok.b1
  have hl1 := hok.l1
  obtain ⟨Z, hZ⟩ : ∃ Z, Z = esize c l := ⟨_, rfl⟩
  rw [← hZ] at hen b2 z2 z1
  have hhas : ehas c start l slot = (decide (start ≤ slot) && decide (slot - start < Z)) := by rw [hZ]; rfl
  rw [hhas]
  clear hok hZ hhas hG
  replace hgd := Lib.hid hgd
  replace hen := Lib.hid hen
  by_cases h1 : slot < start
  · rw [if_neg (by simp; omega)]
    have d1 : (slot < start) = True := by simp; omega
    have d2 : decide (slot < start) = true := by simp; omega
    clear h1
    go_enter Try.func63, Try.ntmps63
    go_upto_region 1 with (refine box_row rfl _ _ rfl _ rfl hinf.out ?_; intro w0 hbx hs0; have hbxl := blk_lt hbx; replace hs0 := Lib.hid hs0; replace hbx := Lib.hid hbx)
    go_wp2_with (refine load_row rfl _ _ rfl w.heap.size rfl _ _ _ _ hbx.out Try.underlying125 rfl hinf.out ?_)
    refine (hgd.out _ (hsl.out.same hs0.out)).mono ?_
    rintro e w1 ⟨rfl, hs1⟩
    have c1 := ep_start ((hs1.block _ hbxl).trans hbx.out)
    go_wp2
    go_ret
    exact ⟨rfl, hs0.out.trans hs1⟩
  by_cases h2 : start + Z ≤ slot
  · rw [if_neg (by simp; omega)]
    have d1 : (slot < start) = False := by simp; omega
    have d2 : decide (slot < start) = false := by simp; omega
    have d3 : decide (start + Z ≤ slot) = true := by simp; omega
    clear h1 h2
    go_enter Try.func63, Try.ntmps63
    go_upto_region 1 with (refine box_row rfl _ _ rfl _ rfl hinf.out ?_; intro w0 hbx hs0; have hbxl := blk_lt hbx; replace hs0 := Lib.hid hs0; replace hbx := Lib.hid hbx)
    go_wp2_with (refine load_row rfl _ _ rfl w.heap.size rfl _ _ _ _ hbx.out Try.underlying125 rfl hinf.out ?_)
    refine (hgd.out _ (hsl.out.same hs0.out)).mono ?_
    rintro e w1 ⟨rfl, hs1⟩
    have hbx1 := (hs1.block _ hbxl).trans hbx.out
    have c1 := ep_start hbx1
    have hw1 := hs0.out.trans hs1
    have hsl1 := hsl.out.same hw1
    clear hs0 hs1
    replace hbx1 := Lib.hid hbx1
    go_wp2_with (refine load_row rfl _ _ rfl w.heap.size rfl _ _ _ _ hbx1.out Try.underlying125 rfl hinf.out ?_)
    refine (hen.out _ hsl1).mono ?_
    rintro e w2 ⟨rfl, hs2⟩
    go_wp2
    go_ret
    exact ⟨rfl, hw1.trans hs2⟩
  · rw [if_pos (by simp; omega)]
    have d1 : (slot < start) = False := by simp; omega
    have d2 : decide (slot < start) = false := by simp; omega
    have d3 : decide (start + Z ≤ slot) = false := by simp; omega
    obtain ⟨D, hD⟩ : ∃ D : Nat, slot - start = (D : Int) := ⟨(slot - start).toNat, by omega⟩
    have hwr : IntKind.i64.wrap (slot - start) = (D : Int) := by rw [hD]; exact IntWalk.i64_in _ ⟨by omega, by omega⟩
    obtain ⟨m, hm⟩ : ∃ m, m = D % l.length := ⟨_, rfl⟩
    have hml : m < l.length := by rw [hm]; exact Nat.mod_lt _ hl1
    have hmod : (D : Int).tmod (l.length : Int) = (m : Int) := by rw [tmod_nat, hm]
    rw [hD, Int.toNat_natCast, ← hm]
    obtain ⟨bk, off, rfl, _, hcell⟩ := hsl.out.at (by intro h2; rw [iv, List.map_eq_nil_iff] at h2; rw [h2] at hl1; simp at hl1)
    have cc := hcell m _ (iv_get hml)
    have hx : l[m]'hml = l.getD m 0 := by simp [List.getD, hml]
    rw [hx] at cc
    obtain ⟨x, hxe⟩ : ∃ x, x = l.getD m 0 := ⟨_, rfl⟩
    rw [← hxe] at cc ⊢
    have hcap := hsl.out.cap
    obtain ⟨n, hn⟩ : ∃ n, n = l.length := ⟨_, rfl⟩
    have hz : ((n : Int) == 0) = false := by simp; omega
    rw [← hn] at hmod hml hcap
    have q0 : 0 ≤ (m : Int) := by omega
    have q1 : (m : Int) < (n : Int) := by omega
    clear hx hxe hcell hm hl1 h1 h2 z1 z2 b2 s1 hb1 hb2
    replace cc := Lib.hid cc
    replace hwr := Lib.hid hwr
    replace hmod := Lib.hid hmod
    replace hD := Lib.hid hD
    rw [← hn] at hinf hgd hsl hen ⊢
    replace hn := Lib.hid hn
    go_enter Try.func63, Try.ntmps63
    go_upto_region 1 with (refine box_row rfl _ _ rfl _ rfl hinf.out ?_; intro w0 hbx hs0; have hbxl := blk_lt hbx; replace hs0 := Lib.hid hs0; replace hbx := Lib.hid hbx)
    go_wp2_with (refine load_row rfl _ _ rfl w.heap.size rfl _ _ _ _ hbx.out Try.underlying125 rfl hinf.out ?_)
    refine (hgd.out _ (hsl.out.same hs0.out)).mono ?_
    rintro e w1 ⟨rfl, hs1⟩
    have hbx1 := (hs1.block _ hbxl).trans hbx.out
    have hbxl1 := blk_lt hbx1
    have c1 := ep_start hbx1
    have hw1 := hs0.out.trans hs1
    have hsl1 := hsl.out.same hw1
    clear hs0 hs1 hbx
    replace hbx1 := Lib.hid hbx1
    go_wp2_with (refine load_row rfl _ _ rfl w.heap.size rfl _ _ _ _ hbx1.out Try.underlying125 rfl hinf.out ?_)
    refine (hen.out _ hsl1).mono ?_
    rintro e w2 ⟨rfl, hs2⟩
    have hbx2 := (hs2.block _ hbxl1).trans hbx1.out
    have hw2 := hw1.trans hs2
    have e1 := ep_start hbx2
    have e2 := ep_leaders hbx2
    have cc1 := hw2.cell cc.out
    clear hs2 hw1 hbx1 hbx2 cc c1 hsl1 hbxl1
    replace hw2 := Lib.hid hw2
    replace e1 := Lib.hid e1
    replace e2 := Lib.hid e2
    replace cc1 := Lib.hid cc1
    go_upto_region 3 with fail
    refine wp_region_tails (by kernel_rfl) [(20, 0), (21, 1), (22, 2), (23, 3), (24, 4), (25, 5), (26, 6), (27, 7), (28, 8), (29, 9), (30, 10), (31, 11)] Same (Same _) [isV (.pointer (some ⟨w.heap.size, 12, none⟩)), isV (.slice (some ⟨bk, off, none⟩) n cap), isV (.int .i64 slot), isV (.pointer (some ⟨w.heap.size, 11, none⟩)), isV (.int .i64 start), isV (.int .i64 (D : Int)), isV (.pointer (some ⟨w.heap.size, 12, none⟩)), isV (.slice (some ⟨bk, off, none⟩) n cap), isV (.int .i64 (n : Int)), isV (.int .i64 (m : Int)), isV (.pointer (some ⟨bk, off + m, none⟩)), isV (.int .i64 x)] Same.refl.drew (fun _ _ h k => h.trans k) (by simp [isV_stable, isB_stable, isAny_stable]) (by decide) (l := [_, _, _, _, _, _, _, _, _, _, _, _]) rfl (by decide) (by kernel_rfl) ?_ ?_
    · refine ⟨?_, ?_, ?_, ?_, ?_, ?_, ?_, ?_, ?_, ?_, ?_, ?_, trivial⟩
      all_goals (intro u wx hI hp; simp only [mkAct, List.foldl_cons, List.foldl_nil, List.setIfInBounds_toArray, List.set_cons_succ, List.set_cons_zero])
      · -- operation 0
        go_wp2
        refine stq_v rfl Same.refl ?_
        first | (simp only [mkAct, List.foldl_cons, List.foldl_nil, List.setIfInBounds_toArray, List.set_cons_succ, List.set_cons_zero, upd, reduceIte, Nat.reduceEqDiff, Nat.reduceAdd, str]; done) | (simp [mkAct, upd, str, *]; done)
      · -- operation 1
        obtain ⟨f0, -⟩ := hp
        replace f0 : u 0 = (.pointer (some ⟨w.heap.size, 12, none⟩)) := f0
        try simp only [f0, str]
        have cx := hI.cell (e2.out)
        go_wp2
        refine stq_v rfl Same.refl ?_
        first | (simp only [mkAct, List.foldl_cons, List.foldl_nil, List.setIfInBounds_toArray, List.set_cons_succ, List.set_cons_zero, upd, reduceIte, Nat.reduceEqDiff, Nat.reduceAdd, f0, str]; done) | (simp [mkAct, upd, f0, str, *]; done)
      · -- operation 2
        go_wp2
        refine stq_v rfl Same.refl ?_
        first | (simp only [mkAct, List.foldl_cons, List.foldl_nil, List.setIfInBounds_toArray, List.set_cons_succ, List.set_cons_zero, upd, reduceIte, Nat.reduceEqDiff, Nat.reduceAdd, str]; done) | (simp [mkAct, upd, str, *]; done)
      · -- operation 3
        go_wp2
        refine stq_v rfl Same.refl ?_
        first | (simp only [mkAct, List.foldl_cons, List.foldl_nil, List.setIfInBounds_toArray, List.set_cons_succ, List.set_cons_zero, upd, reduceIte, Nat.reduceEqDiff, Nat.reduceAdd, str]; done) | (simp [mkAct, upd, str, *]; done)
      · -- operation 4
        obtain ⟨f3, -⟩ := hp
        replace f3 : u 3 = (.pointer (some ⟨w.heap.size, 11, none⟩)) := f3
        try simp only [f3, str]
        have cx := hI.cell (e1.out)
        go_wp2
        refine stq_v rfl Same.refl ?_
        first | (simp only [mkAct, List.foldl_cons, List.foldl_nil, List.setIfInBounds_toArray, List.set_cons_succ, List.set_cons_zero, upd, reduceIte, Nat.reduceEqDiff, Nat.reduceAdd, f3, str]; done) | (simp [mkAct, upd, f3, str, *]; done)
      · -- operation 5
        obtain ⟨f2, f4, -⟩ := hp
        replace f2 : u 2 = (.int .i64 slot) := f2
        replace f4 : u 4 = (.int .i64 start) := f4
        try simp only [f2, f4, str]
        have hwr := hwr.out
        go_wp2
        refine stq_v rfl Same.refl ?_
        first | (simp only [mkAct, List.foldl_cons, List.foldl_nil, List.setIfInBounds_toArray, List.set_cons_succ, List.set_cons_zero, upd, reduceIte, Nat.reduceEqDiff, Nat.reduceAdd, f2, f4, str]; done) | (simp [mkAct, upd, f2, f4, str, *]; done)
      · -- operation 6
        go_wp2
        refine stq_v rfl Same.refl ?_
        first | (simp only [mkAct, List.foldl_cons, List.foldl_nil, List.setIfInBounds_toArray, List.set_cons_succ, List.set_cons_zero, upd, reduceIte, Nat.reduceEqDiff, Nat.reduceAdd, str]; done) | (simp [mkAct, upd, str, *]; done)
      · -- operation 7
        obtain ⟨f6, -⟩ := hp
        replace f6 : u 6 = (.pointer (some ⟨w.heap.size, 12, none⟩)) := f6
        try simp only [f6, str]
        have cx := hI.cell (e2.out)
        go_wp2
        refine stq_v rfl Same.refl ?_
        first | (simp only [mkAct, List.foldl_cons, List.foldl_nil, List.setIfInBounds_toArray, List.set_cons_succ, List.set_cons_zero, upd, reduceIte, Nat.reduceEqDiff, Nat.reduceAdd, f6, str]; done) | (simp [mkAct, upd, f6, str, *]; done)
      · -- operation 8
        obtain ⟨f7, -⟩ := hp
        replace f7 : u 7 = (.slice (some ⟨bk, off, none⟩) n cap) := f7
        try simp only [f7, str]
        go_wp2
        refine stq_v rfl Same.refl ?_
        first | (simp only [mkAct, List.foldl_cons, List.foldl_nil, List.setIfInBounds_toArray, List.set_cons_succ, List.set_cons_zero, upd, reduceIte, Nat.reduceEqDiff, Nat.reduceAdd, f7, str]; done) | (simp [mkAct, upd, f7, str, *]; done)
      · -- operation 9
        obtain ⟨f5, f8, -⟩ := hp
        replace f5 : u 5 = (.int .i64 (D : Int)) := f5
        replace f8 : u 8 = (.int .i64 (n : Int)) := f8
        try simp only [f5, f8, str]
        have hmod := hmod.out
        go_wp2
        refine stq_v rfl Same.refl ?_
        first | (simp only [mkAct, List.foldl_cons, List.foldl_nil, List.setIfInBounds_toArray, List.set_cons_succ, List.set_cons_zero, upd, reduceIte, Nat.reduceEqDiff, Nat.reduceAdd, f5, f8, str]; done) | (simp [mkAct, upd, f5, f8, str, *]; done)
      · -- operation 10
        obtain ⟨f1, f9, -⟩ := hp
        replace f1 : u 1 = (.slice (some ⟨bk, off, none⟩) n cap) := f1
        replace f9 : u 9 = (.int .i64 (m : Int)) := f9
        try simp only [f1, f9, str]
        go_wp2
        refine stq_v rfl Same.refl ?_
        first | (simp only [mkAct, List.foldl_cons, List.foldl_nil, List.setIfInBounds_toArray, List.set_cons_succ, List.set_cons_zero, upd, reduceIte, Nat.reduceEqDiff, Nat.reduceAdd, f1, f9, str]; done) | (simp [mkAct, upd, f1, f9, str, *]; done)
      · -- operation 11
        obtain ⟨f10, -⟩ := hp
        replace f10 : u 10 = (.pointer (some ⟨bk, off + m, none⟩)) := f10
        try simp only [f10, str]
        have cx := hI.cell (cc1.out)
        go_wp2
        refine stq_v rfl Same.refl ?_
        first | (simp only [mkAct, List.foldl_cons, List.foldl_nil, List.setIfInBounds_toArray, List.set_cons_succ, List.set_cons_zero, upd, reduceIte, Nat.reduceEqDiff, Nat.reduceAdd, f10, str]; done) | (simp [mkAct, upd, f10, str, *]; done)
    · intro u wx hI hR
      obtain ⟨r0, r1, r2, r3, r4, r5, r6, r7, r8, r9, r10, r11, -⟩ := hR
      replace r0 : u 0 = (.pointer (some ⟨w.heap.size, 12, none⟩)) := r0
      replace r1 : u 1 = (.slice (some ⟨bk, off, none⟩) n cap) := r1
      replace r2 : u 2 = (.int .i64 slot) := r2
      replace r3 : u 3 = (.pointer (some ⟨w.heap.size, 11, none⟩)) := r3
      replace r4 : u 4 = (.int .i64 start) := r4
      replace r5 : u 5 = (.int .i64 (D : Int)) := r5
      replace r6 : u 6 = (.pointer (some ⟨w.heap.size, 12, none⟩)) := r6
      replace r7 : u 7 = (.slice (some ⟨bk, off, none⟩) n cap) := r7
      replace r8 : u 8 = (.int .i64 (n : Int)) := r8
      replace r9 : u 9 = (.int .i64 (m : Int)) := r9
      replace r10 : u 10 = (.pointer (some ⟨bk, off + m, none⟩)) := r10
      replace r11 : u 11 = (.int .i64 x) := r11
      simp only [mkAct, List.foldl_cons, List.foldl_nil, List.setIfInBounds_toArray, List.set_cons_succ, List.set_cons_zero]
      try simp only [str, r0, r1, r2, r3, r4, r5, r6, r7, r8, r9, r10, r11]
      go_wp2
      go_ret
      exact ⟨rfl, hw2.out.trans hI⟩
set_option maxRecDepth 100000 in
set_option maxHeartbeats 1600000 in
theorem reprimary_any (c : Cfg) (number start : Int) (ao : Option Addr) (cap : Nat) (l : List Int) (leader view : Int) (w : World) (hsl : Sl w 1 ao l.length cap (iv l)) (hb1 : leader ≤ 9223372036854775807) (hb2 : -9223372036854775808 ≤ leader) :
    Calls Try.prog 68 #[.agg (epC c number start ao l.length cap).toArray, .int .i64 leader, .int .i64 view] w fun e w' => e = .returned (.int .i64 (eprimary c number start l leader view)) ∧ Same w w' := by
  have hinf := Lib.hid (rep_info c number start ao l.length cap)
  have hgd := fun w h => regood_any c number start ao l.length cap l w h
  have hin := fun w h => rin_any ao l.length cap l leader w h
  unfold eprimary
  rw [eleads]
  replace hsl := Lib.hid hsl
  have hc0 := Lib.hid (show c.list.getD 0 0 = c.nodes from rfl)
  cases hG : egood c number start l
  · rw [hG] at hgd
    rw [if_neg (by simp)]
    replace hgd := Lib.hid hgd
    clear hG hin
    go_enter Try.func68, Try.ntmps68
    go_upto_region 1 with (refine box_row rfl _ _ rfl _ rfl hinf.out ?_; intro w0 hbx hs0; replace hs0 := Lib.hid hs0; replace hbx := Lib.hid hbx)
    go_wp2_with (refine load_row rfl _ _ rfl w.heap.size rfl _ _ _ _ hbx.out Try.underlying125 rfl hinf.out ?_)
    refine (hgd.out _ (hsl.out.same hs0.out)).mono ?_
    rintro e w1 ⟨rfl, hs1⟩
    go_wp2
    go_ret
    exact ⟨rfl, hs0.out.trans hs1⟩
  have hok := egood_ok hG
  rw [hG] at hgd
  replace hgd := Lib.hid hgd
  clear hG
  by_cases hlm : leader ∈ l
  · rw [decide_eq_true hlm] at hin ⊢
    obtain ⟨j, hj, hje⟩ := List.mem_iff_getElem.1 hlm
    have hel := hok.el j hj
    have hge : l.getD j 0 = leader := by simp [List.getD, hj, hje]
    rw [hge] at hel
    have n1 := hok.n1
    have n2 := hok.n2
    obtain ⟨N, hN⟩ : ∃ N, N = c.nodes := ⟨_, rfl⟩
    rw [← hN] at hel n1 n2 hc0 ⊢
    obtain ⟨hl0, hl1⟩ := hel
    clear hok hj hje hge hlm hN
    replace hin := Lib.hid hin
    have h3 : view < 0 ∨ (0 ≤ view ∧ 1099511627776 < view) ∨ (0 ≤ view ∧ view ≤ 1099511627776) := by omega
    rcases h3 with h | ⟨h, h'⟩ | ⟨h, h'⟩
    · rw [if_neg (by simp; omega)]
      have d1 : decide (view < 0) = true := by simp; omega
      have d2 : (view < 0) = True := by simp; omega
      clear h
      go_enter Try.func68, Try.ntmps68
      go_upto_region 1 with (refine box_row rfl _ _ rfl _ rfl hinf.out ?_; intro w0 hbx hs0; have hbxl := blk_lt hbx; replace hs0 := Lib.hid hs0; replace hbx := Lib.hid hbx)
      go_wp2_with (refine load_row rfl _ _ rfl w.heap.size rfl _ _ _ _ hbx.out Try.underlying125 rfl hinf.out ?_)
      refine (hgd.out _ (hsl.out.same hs0.out)).mono ?_
      rintro e w1 ⟨rfl, hs1⟩
      have hbx1 := (hs1.block _ hbxl).trans hbx.out
      have hw1 := hs0.out.trans hs1
      have e2 := ep_leaders hbx1
      have e1 := ep_cell hbx1 0 (by omega)
      rw [hc0.out] at e1
      have hi1 := Lib.hid (hin.out w1 (hsl.out.same hw1))
      clear hs0 hs1 hbx hbx1
      go_wp2_with fail
      refine hi1.out.mono ?_
      rintro e w2 ⟨rfl, hs2⟩
      go_wp2
      go_ret
      exact ⟨rfl, hw1.trans hs2⟩
    · rw [if_neg (by simp; omega)]
      have d1 : decide (view < 0) = false := by simp; omega
      have d2 : (view < 0) = False := by simp; omega
      have d3 : decide (1099511627776 < view) = true := by simp; omega
      clear h h'
      go_enter Try.func68, Try.ntmps68
      go_upto_region 1 with (refine box_row rfl _ _ rfl _ rfl hinf.out ?_; intro w0 hbx hs0; have hbxl := blk_lt hbx; replace hs0 := Lib.hid hs0; replace hbx := Lib.hid hbx)
      go_wp2_with (refine load_row rfl _ _ rfl w.heap.size rfl _ _ _ _ hbx.out Try.underlying125 rfl hinf.out ?_)
      refine (hgd.out _ (hsl.out.same hs0.out)).mono ?_
      rintro e w1 ⟨rfl, hs1⟩
      have hbx1 := (hs1.block _ hbxl).trans hbx.out
      have hw1 := hs0.out.trans hs1
      have e2 := ep_leaders hbx1
      have e1 := ep_cell hbx1 0 (by omega)
      rw [hc0.out] at e1
      have hi1 := Lib.hid (hin.out w1 (hsl.out.same hw1))
      clear hs0 hs1 hbx hbx1
      go_wp2_with fail
      refine hi1.out.mono ?_
      rintro e w2 ⟨rfl, hs2⟩
      go_wp2
      go_ret
      exact ⟨rfl, hw1.trans hs2⟩
    · rw [if_pos ⟨by simp, h, h'⟩]
      have d1 : decide (view < 0) = false := by simp; omega
      have d2 : (view < 0) = False := by simp; omega
      have d3 : decide (1099511627776 < view) = false := by simp; omega
      have hz : (N == 0) = false := by simp; omega
      have hs : IntKind.i64.wrap (leader + view) = leader + view := IntWalk.i64_in _ ⟨by omega, by omega⟩
      obtain ⟨x, hx⟩ : ∃ x, x = (leader + view) % N := ⟨_, rfl⟩
      have hmd : (leader + view).tmod N = x := by rw [hx, Int.tmod_eq_emod_of_nonneg (by omega)]
      have hxlt : x < N := by rw [hx]; exact Int.emod_lt_of_pos _ (by omega)
      have hxge : 0 ≤ x := by rw [hx]; exact Int.emod_nonneg _ (by omega)
      have hwx : IntKind.i64.wrap x = x := IntWalk.i64_in _ ⟨by omega, by omega⟩
      rw [← hx]
      clear hx
      go_enter Try.func68, Try.ntmps68
      go_upto_region 1 with (refine box_row rfl _ _ rfl _ rfl hinf.out ?_; intro w0 hbx hs0; have hbxl := blk_lt hbx; replace hs0 := Lib.hid hs0; replace hbx := Lib.hid hbx)
      go_wp2_with (refine load_row rfl _ _ rfl w.heap.size rfl _ _ _ _ hbx.out Try.underlying125 rfl hinf.out ?_)
      refine (hgd.out _ (hsl.out.same hs0.out)).mono ?_
      rintro e w1 ⟨rfl, hs1⟩
      have hbx1 := (hs1.block _ hbxl).trans hbx.out
      have hw1 := hs0.out.trans hs1
      have e2 := ep_leaders hbx1
      have e1 := ep_cell hbx1 0 (by omega)
      rw [hc0.out] at e1
      have hi1 := Lib.hid (hin.out w1 (hsl.out.same hw1))
      clear hs0 hs1 hbx hbx1
      replace e1 := Lib.hid e1
      go_wp2_with fail
      refine hi1.out.mono ?_
      rintro e w2 ⟨rfl, hs2⟩
      have e1' := hs2.cell e1.out
      go_wp2
      go_ret
      exact ⟨rfl, hw1.trans hs2⟩
  · rw [decide_eq_false hlm] at hin ⊢
    rw [if_neg (by simp)]
    replace hin := Lib.hid hin
    have hdum : True := trivial
    · clear hok hlm
      go_enter Try.func68, Try.ntmps68
      go_upto_region 1 with (refine box_row rfl _ _ rfl _ rfl hinf.out ?_; intro w0 hbx hs0; have hbxl := blk_lt hbx; replace hs0 := Lib.hid hs0; replace hbx := Lib.hid hbx)
      go_wp2_with (refine load_row rfl _ _ rfl w.heap.size rfl _ _ _ _ hbx.out Try.underlying125 rfl hinf.out ?_)
      refine (hgd.out _ (hsl.out.same hs0.out)).mono ?_
      rintro e w1 ⟨rfl, hs1⟩
      have hbx1 := (hs1.block _ hbxl).trans hbx.out
      have hw1 := hs0.out.trans hs1
      have e2 := ep_leaders hbx1
      have e1 := ep_cell hbx1 0 (by omega)
      rw [hc0.out] at e1
      have hi1 := Lib.hid (hin.out w1 (hsl.out.same hw1))
      clear hs0 hs1 hbx hbx1
      go_wp2_with fail
      refine hi1.out.mono ?_
      rintro e w2 ⟨rfl, hs2⟩
      go_wp2
      go_ret
      exact ⟨rfl, hw1.trans hs2⟩
theorem slotsTo_none {start : Int} {l : List Int} {leader : Int} (hl : 0 < l.length) (h : leader ∉ l) (k : Nat) : slotsTo start l leader k = [] := by
  rw [slotsTo, List.filter_eq_nil_iff.2]
  · rfl
  · intro i _
    have hm : i % l.length < l.length := Nat.mod_lt _ hl
    simp only [List.getD, List.getElem?_eq_getElem hm, Option.getD_some, decide_eq_true_eq]
    exact fun e => h (e ▸ List.getElem_mem _)
theorem eowner_at {c : Cfg} {number start : Int} {l : List Int} (hG : egood c number start l = true) {Z : Nat} (hZ : esize c l = (Z : Int)) {k : Nat} (hk : k < Z) : eowner c number start l (start + (k : Int)) = l.getD (k % l.length) 0 := by
  have hh : ehas c start l (start + (k : Int)) = true := by
    rw [ehas, hZ, Bool.and_eq_true, decide_eq_true_eq, decide_eq_true_eq]
    omega
  rw [eowner, if_pos (by rw [hG, hh]; rfl), show start + (k : Int) - start = (k : Int) by omega, Int.toNat_natCast]
set_option maxRecDepth 100000 in
set_option maxHeartbeats 3200000 in
theorem reslots_any (c : Cfg) (number start : Int) (ao : Option Addr) (cap : Nat) (l : List Int) (leader : Int) (w : World) (hsl : Sl w 1 ao l.length cap (iv l)) :
    Calls Try.prog 66 #[.agg (epC c number start ao l.length cap).toArray, .int .i64 leader] w (RetI w (eslots c number start l leader)) := by
  have hinf := Lib.hid (rep_info c number start ao l.length cap)
  have hgd := fun w h => regood_any c number start ao l.length cap l w h
  obtain ⟨R, hR⟩ : ∃ R, R = eslots c number start l leader := ⟨_, rfl⟩
  rw [← hR]
  unfold eslots at hR
  replace hsl := Lib.hid hsl
  cases hG : egood c number start l
  · rw [hG] at hgd hR
    rw [if_neg (by simp)] at hR
    subst hR
    replace hgd := Lib.hid hgd
    clear hG
    go_enter Try.func66, Try.ntmps66
    go_upto_region 1 with (refine box_row rfl _ _ rfl _ rfl hinf.out ?_; intro w0 hbx hs0; have hbxl := blk_lt hbx; replace hs0 := Lib.hid hs0; replace hbx := Lib.hid hbx)
    go_wp2_with (refine load_row rfl _ _ rfl w.heap.size rfl _ _ _ _ hbx.out Try.underlying125 rfl hinf.out ?_)
    refine (hgd.out _ (hsl.out.same hs0.out)).mono ?_
    rintro e w1 ⟨rfl, hs1⟩
    go_wp2
    go_ret
    exact ⟨_, rfl, World.ownsRow_nil _ _ _ _, hs0.out.trans hs1⟩
  have hok := egood_ok hG
  rw [hG] at hgd
  replace hgd := Lib.hid hgd
  by_cases hlt0 : leader < 0
  · have hR2 : R = [] := by
      rw [hR, hG, eleads, decide_eq_false, if_neg (by simp)]
      intro hm
      obtain ⟨j, hj, hje⟩ := List.mem_iff_getElem.1 hm
      have hel := hok.el j hj
      have hge : l.getD j 0 = leader := by simp [List.getD, hj, hje]
      omega
    subst hR2
    have d1 : (leader < 0) = True := by simp; omega
    have d2 : decide (leader < 0) = true := by simp; omega
    clear hG hok hR hlt0
    go_enter Try.func66, Try.ntmps66
    go_upto_region 1 with (refine box_row rfl _ _ rfl _ rfl hinf.out ?_; intro w0 hbx hs0; have hbxl := blk_lt hbx; replace hs0 := Lib.hid hs0; replace hbx := Lib.hid hbx)
    go_wp2_with (refine load_row rfl _ _ rfl w.heap.size rfl _ _ _ _ hbx.out Try.underlying125 rfl hinf.out ?_)
    refine (hgd.out _ (hsl.out.same hs0.out)).mono ?_
    rintro e w1 ⟨rfl, hs1⟩
    go_wp2
    go_ret
    exact ⟨_, rfl, World.ownsRow_nil _ _ _ _, hs0.out.trans hs1⟩
  · have d1 : (leader < 0) = False := by simp; omega
    have d2 : decide (leader < 0) = false := by simp; omega
    have b1 := hok.b1
    have b2 := hok.b2
    have z1 := hok.z1
    have z2 := hok.z2
    have hl1 := hok.l1
    have hen := fun w h => reend_any c number start ao cap l w h
    have how := fun s w h h1 h2 => reowner_any c number start ao cap l s w h h1 h2
    unfold eend at hen
    rw [hG, if_pos (by simp)] at hen
    obtain ⟨Z, hZ⟩ : ∃ Z : Nat, esize c l = (Z : Int) := ⟨(esize c l).toNat, by omega⟩
    have hR2 : R = slotsTo start l leader Z := by
      rw [hR, hG, hZ, Int.toNat_natCast]
      by_cases hm : leader ∈ l
      · rw [eleads, decide_eq_true hm, if_pos (by simp)]
      · rw [eleads, decide_eq_false hm, if_neg (by simp), slotsTo_none hl1 hm]
    have hat := fun (k : Nat) (hk : k < Z) => eowner_at hG hZ hk
    rw [hZ] at hen b2 z1 z2
    have hsc := slotsTo_succ start l leader
    have hle := slotsTo_le start l leader
    obtain ⟨S, hS⟩ : ∃ S, S = slotsTo start l leader := ⟨_, rfl⟩
    rw [← hS] at hsc hle hR2
    have hS0 : S 0 = [] := by rw [hS]; rfl
    clear hG hok hS hZ hl1 hR hlt0
    replace hR2 := Lib.hid hR2
    replace hen := Lib.hid hen
    replace how := Lib.hid how
    replace hat := Lib.hid hat
    replace hsc := Lib.hid hsc
    replace hS0 := Lib.hid hS0
    go_enter Try.func66, Try.ntmps66
    go_upto_region 1 with (refine box_row rfl _ _ rfl _ rfl hinf.out ?_; intro w0 hbx hs0; have hbxl := blk_lt hbx; replace hs0 := Lib.hid hs0; replace hbx := Lib.hid hbx)
    go_wp2_with (refine load_row rfl _ _ rfl w.heap.size rfl _ _ _ _ hbx.out Try.underlying125 rfl hinf.out ?_)
    refine (hgd.out _ (hsl.out.same hs0.out)).mono ?_
    rintro e w1 ⟨rfl, hs1⟩
    have hbx1 := (hs1.block _ hbxl).trans hbx.out
    have hw1 := hs0.out.trans hs1
    have e1 := ep_start hbx1
    clear hs1 hs0 hbx
    replace hw1 := Lib.hid hw1
    replace hbx1 := Lib.hid hbx1
    go_wp2
    clear e1
    go_loopw [6, 5] (fun i v wr => ∃ k : Nat, k ≤ Z ∧ i = .int .i64 (start + (k : Int)) ∧ Own wr w1.heap.size 3 1 v (S k).length (iv (S k)) ∧ Same w1 wr) (fun i _ _ => (start + (Z : Int)).toNat - (intOf i).toNat)
    case atStart => exact ⟨0, by omega, by simp, by rw [hS0.out]; exact World.ownsRow_nil _ _ _ _, Same.refl⟩
    case round =>
      obtain ⟨k, hk, rfl, ho, hs⟩ := hrel
      have hbxr := Lib.hid ((hs.block _ (blk_lt hbx1.out)).trans hbx1.out)
      have hen1 := Lib.hid (hen.out wr (hsl.out.same (hw1.out.trans hs)))
      by_cases hlt : k < Z
      · have d3 : decide (start + (k : Int) < start + (Z : Int)) = true := by simp; omega
        have d4 : (start + (k : Int) < start + (Z : Int)) = True := by simp; omega
        have hsk := hsc.out k
        have hak := hat.out k hlt
        obtain ⟨x, hxe⟩ : ∃ x, x = l.getD (k % l.length) 0 := ⟨_, rfl⟩
        rw [← hxe] at hsk hak
        have hlk := hle k
        clear hxe
        obtain ⟨m4, hm4⟩ : ∃ m, m = (S k).length := ⟨_, rfl⟩
        obtain ⟨o4, ho4'⟩ : ∃ o, o = iv (S k) := ⟨_, rfl⟩
        rw [← hm4, ← ho4'] at ho
        rw [← hm4] at hlk
        replace hm4 := Lib.hid hm4
        replace ho4' := Lib.hid ho4'
        replace ho := Lib.hid ho
        replace hs := Lib.hid hs
        go_wp2_with (refine load_row rfl _ _ rfl w.heap.size rfl _ _ _ _ hbxr.out Try.underlying125 rfl hinf.out ?_)
        refine hen1.out.mono ?_
        rintro e w2 ⟨rfl, hs2⟩
        have hbx2 := Lib.hid ((hs2.block _ (blk_lt hbxr.out)).trans hbxr.out)
        have how1 := how.out (start + (k : Int)) w2 (hsl.out.same ((hw1.out.trans hs.out).trans hs2)) (by omega) (by omega)
        rw [hak] at how1
        replace how1 := Lib.hid how1
        clear hak
        go_wp2_with (refine load_row rfl _ _ rfl w.heap.size rfl _ _ _ _ hbx2.out Try.underlying125 rfl hinf.out ?_)
        refine how1.out.mono ?_
        rintro e w3 ⟨rfl, hs3⟩
        have hsR := hs.out.trans (hs2.trans hs3)
        have hoR := ho.out.same (hs2.trans hs3)
        have hszR := hsR.size
        clear hs2 hs3 hs ho hbxr hbx2 how1 hen1
        replace hsR := Lib.hid hsR
        replace hoR := Lib.hid hoR
        have hwk : IntKind.i64.wrap (start + (k : Int) + 1) = start + (k : Int) + 1 := IntWalk.i64_in _ ⟨by omega, by omega⟩
        by_cases hxl : x = leader
        · have hb2 : (x == leader) = true := by simp [hxl]
          rw [if_pos hxl] at hsk
          have hsl2 : (S (k + 1)).length = (S k).length + 1 := by rw [hsk]; simp
          clear hxl
          replace hsk := Lib.hid hsk
          replace hsl2 := Lib.hid hsl2
          go_wp2_with (at_builtin; refine append_own (l := [.int .i64 (start + (k : Int))]) rfl _ _ rfl isT hoR.out rfl rfl rfl (by simp [Value.oneCell']) hszR (by omega) (by omega) ?_; intro v4 w4 ho4 hk4 hz4; clear hz4; replace ho4 := Lib.hid ho4; replace hk4 := Lib.hid hk4)
          go_roundw
          case rel => exact ⟨k + 1, by omega, by rw [Int.natCast_add, Int.natCast_one, ← Int.add_assoc], by rw [hsl2.out, ← hm4.out, hsk.out, iv_append, ← ho4'.out]; exact ho4.out, hsR.out.keep hk4.out (fun x hx hv => by have := hoR.out.base x hv; omega)⟩
          case measure => simp [intOf]; omega
        · have hb2 : (x == leader) = false := by simpa using hxl
          rw [if_neg hxl] at hsk
          clear hxl
          replace hsk := Lib.hid hsk
          go_wp2
          go_roundw
          case rel => exact ⟨k + 1, by omega, by rw [Int.natCast_add, Int.natCast_one, ← Int.add_assoc], by rw [hsk.out, ← hm4.out, ← ho4'.out]; exact hoR.out, hsR.out⟩
          case measure => simp [intOf]; omega
      · obtain rfl : k = Z := by omega
        clear hlt
        replace hs := Lib.hid hs
        replace ho := Lib.hid ho
        go_wp2_with (refine load_row rfl _ _ rfl w.heap.size rfl _ _ _ _ hbxr.out Try.underlying125 rfl hinf.out ?_)
        refine hen1.out.mono ?_
        rintro e w2 ⟨rfl, hs2⟩
        go_wp2
        go_ret
        exact ⟨_, rfl, by rw [hR2.out]; exact (ho.out.same hs2).lower hw1.out.size, (hw1.out.trans hs.out).trans hs2⟩
end Go.Proofs.Ytmacgmmjgdmleaa
