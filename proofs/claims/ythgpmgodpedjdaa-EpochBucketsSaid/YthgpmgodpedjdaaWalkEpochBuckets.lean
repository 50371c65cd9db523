/-
  The walk of the law EpochBuckets: a pair's bucket is one of the leaders'.
-/
-- @law rep ep, int, int
import Derived.Test.YthgpmgodpedjdaaRdCfg
import Derived.Test.YthgpmgodpedjdaaOwnE
import Derived.Test.YthgpmgodpedjdaaEpLives
import Derived.Deep.DeepCutAuto
namespace Go.Proofs.Ythgpmgodpedjdaa
open Go Go.RowKit
set_option linter.unusedSimpArgs false
set_option linter.unusedVariables false

theorem turn_mem (f : Int) (N : Nat) (x : Int) (h0 : 0 ≤ x) (h1 : x < (N : Int)) : x ∈ turnOf f N N := by
  rw [turnOf, List.mem_map]
  have hN : 0 < (N : Int) := by omega
  have g0 := Int.emod_nonneg (x - f) (show (N : Int) ≠ 0 by omega)
  have g1 := Int.emod_lt_of_pos (x - f) hN
  refine ⟨((x - f) % (N : Int)).toNat, List.mem_range.2 (by omega), ?_⟩
  rw [Int.toNat_of_nonneg g0, Int.add_comm, Int.emod_add_emod, show x - f + f = x by omega, Int.emod_eq_of_lt h0 h1]
theorem turn_led {T l : List Int} {x : Int} (hT : x ∈ T) (hl : x ∈ l) : (T.find? (fun x => decide (x ∈ l))).getD (-1) ∈ l := by
  cases h : T.find? (fun x => decide (x ∈ l)) with
  | none =>
    rw [List.find?_eq_none] at h
    exact absurd hl (by simpa using h x hT)
  | some y => simpa using List.find?_some h
theorem ebucket_led {c : Cfg} {number start : Int} {l : List Int} {client num : Int} (hG : egood c number start l = true) (h1 : 0 ≤ client) (h2 : 0 ≤ num) : ebucket c number start l client num ∈ l := by
  rw [ebucket, if_pos ⟨hG, h1, h2⟩]
  have hok := egood_ok hG
  have hG2 := hG
  simp only [egood, Bool.and_eq_true, decide_eq_true_eq] at hG2
  obtain ⟨k1, k2, k3, _⟩ := hG2
  have k1' := k1
  rw [Cfg.good] at k1'
  simp only [Bool.and_eq_true, qgood_iff, Cfg.spans, List.all_cons, inside_iff] at k1'
  have hm : c.may number = true := by
    rw [Cfg.may, k1]
    simp
    omega
  have hK : 0 ≤ reqBucket client num c.buckets ∧ reqBucket client num c.buckets < c.buckets := by
    rw [reqBucket, if_neg (by omega), shareOf, if_neg (by omega)]
    exact ⟨Int.emod_nonneg _ (by omega), Int.emod_lt_of_pos _ (by omega)⟩
  rw [lowner, if_pos ⟨hm, hK⟩]
  have hl1 := hok.l1
  have he := hok.el 0 hl1
  refine turn_led (x := l.getD 0 0) (turn_mem _ _ _ he.1 (by have := hok.n1; omega)) ?_
  simp only [List.getD, List.getElem?_eq_getElem hl1, Option.getD_some]
  exact List.getElem_mem _
set_option maxRecDepth 100000 in
set_option maxHeartbeats 1600000 in
theorem buckets_no (w : World) (c : Cfg) (number start : Int) (ao : Option Addr) (n cap : Nat) (l : List Int) (client num : Int) (hsl : Sl w 1 ao n cap (iv l)) (h : 100 < n ∨ n ≤ 100 ∧ egood c number start l = false ∨ n ≤ 100 ∧ egood c number start l = true ∧ client < 0 ∨ n ≤ 100 ∧ egood c number start l = true ∧ 0 ≤ client ∧ num < 0) :
    Calls Try.prog 12 #[.agg (epC c number start ao n cap).toArray, .int .i64 client, .int .i64 num] w fun e w' => e = .returned (.bool true) ∧ Same w w' := by
  have hl := Lib.hid lives12
  have hinf := Lib.hid (ep_info c number start ao n cap)
  have hgd := fun w h => egood_any c number start ao n cap l w h
  replace hsl := Lib.hid hsl
  rcases h with h | ⟨h, h'⟩ | ⟨h, h', h1⟩ | ⟨h, h', h1, h2⟩
  · clear hgd
    go_enter Try.func12, Try.ntmps12
    go_upto_region 1 with (refine box_row rfl _ _ rfl _ rfl hinf.out ?_; intro w0 hbx hs0; have e3 := ep_leaders hbx; clear hbx; replace hs0 := Lib.hid hs0)
    go_wp2_with fail
    refine (hl.out _).mono ?_
    rintro e w2 ⟨rfl, hs2⟩
    go_wp2
    go_ret
    exact ⟨rfl, hs0.out.trans hs2⟩
  all_goals
    rw [h'] at hgd
    replace hgd := Lib.hid hgd
    have hdn : decide (100 < (n : Int)) = false := decide_eq_false (by omega)
    have d1 : True := trivial
    first
      | (have d1 : decide (client < 0) = false := by simp; omega
         have d2 : decide (num < 0) = true := by simp; omega
         have d3 : (client < 0) = False := by simp; omega)
      | (have d1 : decide (client < 0) = true := by simp; omega)
      | skip
    clear h' h
    try clear h2
    try clear h1
    go_enter Try.func12, Try.ntmps12
    go_upto_region 1 with (refine box_row rfl _ _ rfl _ rfl hinf.out ?_; intro w0 hbx hs0; have e3 := ep_leaders hbx; replace hbx := Lib.hid hbx; replace hs0 := Lib.hid hs0)
    go_wp2_with (refine load_row rfl _ _ rfl w.heap.size rfl _ _ _ _ hbx.out Try.underlying82 rfl hinf.out ?_)
    refine (hgd.out _ (hsl.out.same hs0.out)).mono ?_
    rintro e w1 ⟨rfl, hs1⟩
    go_wp2_with fail
    refine (hl.out _).mono ?_
    rintro e w2 ⟨rfl, hs2⟩
    go_wp2
    go_ret
    exact ⟨rfl, (hs0.out.trans hs1).trans hs2⟩
set_option maxRecDepth 100000 in
set_option maxHeartbeats 1600000 in
theorem buckets_yes (w : World) (c : Cfg) (number start : Int) (ao : Option Addr) (n cap : Nat) (l : List Int) (client num : Int) (hsl : Sl w 1 ao n cap (iv l)) (hln : l.length = n) (h : n ≤ 100) (hG : egood c number start l = true) (h1 : 0 ≤ client) (h2 : 0 ≤ num) (hb1 : client ≤ 9223372036854775807) (hb2 : num ≤ 9223372036854775807) :
    Calls Try.prog 12 #[.agg (epC c number start ao n cap).toArray, .int .i64 client, .int .i64 num] w fun e w' => e = .returned (.bool true) ∧ Same w w' := by
  have hl := Lib.hid lives12
  have hinf := Lib.hid (ep_info c number start ao n cap)
  have hgd := fun w h => egood_any c number start ao n cap l w h
  have hbk := fun w h => ebucket_any c number start ao cap l client num w h hb1 hb2
  rw [hln] at hbk
  have hled := ebucket_led hG h1 h2
  rw [hG] at hgd
  obtain ⟨B, hB⟩ : ∃ B, B = ebucket c number start l client num := ⟨_, rfl⟩
  rw [← hB] at hbk hled
  clear hB hG
  have hcap := hsl.cap
  have hnx : ∀ k, k < n → B ∉ l.take k → l.getD k 0 ≠ B → B ∉ l.take (k + 1) := by
    intro k hk h1 h2
    rw [List.take_succ_eq_append_getElem (by omega)]
    simp only [List.getD, List.getElem?_eq_getElem (show k < l.length by omega), Option.getD_some] at h2
    simp only [List.mem_append, List.mem_singleton, not_or]
    exact ⟨h1, fun h => h2 h.symm⟩
  have hend : ¬ B ∉ l.take n := by rw [List.take_of_length_le (by omega)]; exact fun h => h hled
  have hdn : decide (100 < (n : Int)) = false := decide_eq_false (by omega)
  have d1 : decide (client < 0) = false := by simp; omega
  have d2 : decide (num < 0) = false := by simp; omega
  have d3 : (client < 0) = False := by simp; omega
  have d4 : (num < 0) = False := by simp; omega
  clear hled h1 h2 hb1 hb2
  replace hgd := Lib.hid hgd
  replace hbk := Lib.hid hbk
  replace hnx := Lib.hid hnx
  replace hend := Lib.hid hend
  replace hln := Lib.hid hln
  replace hsl := Lib.hid hsl
  go_enter Try.func12, Try.ntmps12
  go_upto_region 1 with (refine box_row rfl _ _ rfl _ rfl hinf.out ?_; intro w0 hbx hs0; have hbxl := blk_lt hbx; have e3 := ep_leaders hbx; replace hbx := Lib.hid hbx; replace hs0 := Lib.hid hs0)
  go_wp2_with (refine load_row rfl _ _ rfl w.heap.size rfl _ _ _ _ hbx.out Try.underlying82 rfl hinf.out ?_)
  refine (hgd.out _ (hsl.out.same hs0.out)).mono ?_
  rintro e w1 ⟨rfl, hs1⟩
  have hbx1 := Lib.hid ((hs1.block _ hbxl).trans hbx.out)
  have hbxl1 := blk_lt hbx1.out
  have hw1 := Lib.hid (hs0.out.trans hs1)
  clear hs0 hs1 hbx e3 hbxl
  go_wp2_with (refine load_row rfl _ _ rfl w.heap.size rfl _ _ _ _ hbx1.out Try.underlying82 rfl hinf.out ?_)
  refine (hbk.out _ (hsl.out.same hw1.out)).mono ?_
  rintro e w2 ⟨rfl, hs2⟩
  have hbx2 := (hs2.block _ hbxl1).trans hbx1.out
  have hw2 := Lib.hid (hw1.out.trans hs2)
  have e3 := ep_leaders hbx2
  clear hs2 hw1 hbx1 hbx2 hbxl1
  go_wp2
  clear e3
  go_loopw [35] (fun i wr => ∃ k : Nat, k ≤ n ∧ i = .int .i64 k ∧ B ∉ l.take k ∧ Same w2 wr) (fun i _ => n - (intOf i).toNat)
  case atStart => exact ⟨0, by omega, rfl, by simp, Same.refl⟩
  case round =>
    obtain ⟨k, hk, rfl, hnt, hs⟩ := hrel
    by_cases hlt : k < n
    · obtain ⟨bk, off, rfl, _, hcell⟩ := hsl.out.at (by intro h2; rw [iv, List.map_eq_nil_iff] at h2; have := hln.out; rw [h2] at this; simp at this; omega)
      have hkl : k < l.length := by have := hln.out; omega
      have cc := (hw2.out.trans hs).cell (hcell k _ (iv_get hkl))
      have hx : l[k]'hkl = l.getD k 0 := by simp [List.getD, hkl]
      rw [hx] at cc
      have hn := hnx.out k hlt hnt
      obtain ⟨x, hxe⟩ : ∃ x, x = l.getD k 0 := ⟨_, rfl⟩
      rw [← hxe] at cc hn
      have q0 : 0 ≤ (k : Int) := by omega
      have q1 : (k : Int) < (n : Int) := by omega
      clear hcell hx hxe hnt
      replace hs := Lib.hid hs
      by_cases hxn : x = B
      · have hb : (x == B) = true := by simp [hxn]
        clear hn hxn
        go_wp2_with fail
        refine (hl.out _).mono ?_
        rintro e w9 ⟨rfl, hs9⟩
        go_wp2
        go_ret
        exact ⟨rfl, (hw2.out.trans hs.out).trans hs9⟩
      · have hn2 := hn hxn
        have hb : (x == B) = false := by simpa using hxn
        clear hn hxn
        replace hn2 := Lib.hid hn2
        go_wp2
        go_roundw
        case rel => exact ⟨k + 1, by omega, by go_num, hn2.out, hs.out⟩
        case measure => simp [intOf]; omega
    · obtain rfl : k = n := by omega
      exact absurd hnt hend.out
theorem walk_EpochBuckets (w : World) (a : EpIn) (ha : a.ep.cfg.wf ∧ (Lit.int .i64 a.ep.number).wf = true ∧ (Lit.int .i64 a.ep.start).wf = true ∧ Sl w 1 a.ao a.ep.leaders.length a.cap (iv a.ep.leaders) ∧ ∀ n ∈ a.ep.leaders, (Lit.int .i64 n).wf = true) (client : Int) (hl : (Lit.int .i64 client).wf = true) (num : Int) (hv : (Lit.int .i64 num).wf = true) :
    Calls Try.prog 12 #[.agg (epC a.ep.cfg a.ep.number a.ep.start a.ao a.ep.leaders.length a.cap).toArray, .int .i64 client, .int .i64 num] w fun e w' => e = .returned (.bool true) ∧ Same w w' := by
  simp [Lit.wf, IntKind.min, IntKind.max, IntKind.signed, IntKind.bits] at hl hv
  by_cases h : 100 < a.ep.leaders.length
  · exact buckets_no w _ _ _ _ _ _ a.ep.leaders client num ha.2.2.2.1 (.inl h)
  · cases hG : egood a.ep.cfg a.ep.number a.ep.start a.ep.leaders
    · exact buckets_no w _ _ _ _ _ _ a.ep.leaders client num ha.2.2.2.1 (.inr (.inl ⟨by omega, hG⟩))
    · by_cases h1 : client < 0
      · exact buckets_no w _ _ _ _ _ _ a.ep.leaders client num ha.2.2.2.1 (.inr (.inr (.inl ⟨by omega, hG, h1⟩)))
      · by_cases h2 : num < 0
        · exact buckets_no w _ _ _ _ _ _ a.ep.leaders client num ha.2.2.2.1 (.inr (.inr (.inr ⟨by omega, hG, by omega, h2⟩)))
        · exact buckets_yes w _ _ _ _ _ _ a.ep.leaders client num ha.2.2.2.1 rfl (by omega) hG (by omega) (by omega) (by omega) (by omega)
end Go.Proofs.Ythgpmgodpedjdaa
