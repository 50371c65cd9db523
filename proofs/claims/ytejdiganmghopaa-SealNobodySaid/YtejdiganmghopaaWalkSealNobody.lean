/-
  The walk of the law SealNobody: keys that no call made sign nothing, and take nothing.
-/
-- @law int, str, rep tag
import Derived.Test.YtejdiganmghopaaSeal1
import Derived.Test.YtejdiganmghopaaLives4
import Derived.Test.YtejdiganmghopaaRd
import Derived.Deep.DeepCutAuto
namespace Go.Proofs.Ytejdiganmghopaa
open Go Go.RowKit
set_option linter.unusedSimpArgs false
set_option linter.unusedVariables false

/-- Keys that no call made. -/
def DeadK (w : World) (p : Option Addr) : Prop := p = none ∨ ∃ kb, p = some ⟨kb, 0, none⟩ ∧ w.heap[kb]? = some (.cells #[.string ByteArray.empty, .int .i64 0] 94 (0, 0))
theorem DeadK.keys {w : World} {p : Option Addr} (h : DeadK w p) : KeysAt w p ByteArray.empty 0 := by
  rcases h with h | ⟨kb, h1, h2⟩
  · exact .inl ⟨h, rfl⟩
  · exact .inr ⟨kb, h1, h2⟩
set_option maxRecDepth 100000 in
set_option maxHeartbeats 400000 in
theorem sign_dead (w : World) (p : Option Addr) (id : Int) (body : ByteArray) (h : DeadK w p) :
    Calls Try.prog 56 #[.pointer p, .int .i64 id, .string body] w (RetTag w (noTag, 1)) := by
  have hinfT := Lib.hid (tag_info noTag_length)
  have hlen := Lib.hid (fun w h => klen_any w p ByteArray.empty 0 h)
  replace h := Lib.hid h.keys
  go_enter Try.func56, Try.ntmps56
  go_upto_region 1 with (refine alloc_new rfl 91 rfl (bv noTag).toArray (by kernel_rfl) ?_; intro w1 hd hs1; have hdl := blk_lt hd; replace hd := Lib.hid hd; replace hs1 := Lib.hid hs1)
  have hk1 := h.out.same hs1.out
  replace hk1 := Lib.hid hk1
  go_wp2_with fail
  refine (hlen.out _ hk1.out).mono ?_
  rintro e w2 ⟨rfl, rfl⟩
  go_wp2_with (first | (refine load_row rfl _ _ rfl w.heap.size rfl _ _ _ _ hd.out Try.underlying91 rfl hinfT.out ?_) | (refine store_row rfl _ _ _ rfl w.heap.size _ rfl rfl _ _ hd.out hinfT.out rfl (by simpa using bv_cell) ?_; intro w3 hb3 hk3; replace hb3 := Lib.hid hb3; replace hk3 := Lib.hid hk3))
  refine bodyPost_ret (v := .tuple #[.agg (bv noTag).toArray, .int .i64 1]) (results_row2 (p := 6) (q := 7) (ty := 91) rfl _ _ w.heap.size _ _ _ _ _ rfl rfl hb3.out Try.underlying91 rfl hinfT.out) rfl ?_
  exact ⟨rfl, hs1.out.keep hk3.out (fun x hx hv => by omega)⟩
theorem DeadK.same {w w' : World} {p : Option Addr} (h : DeadK w p) (k : Same w w') : DeadK w' p := by
  rcases h with h | ⟨kb, h1, h2⟩
  · exact .inl h
  · exact .inr ⟨kb, h1, (k.block _ (blk_lt h2)).trans h2⟩
set_option maxRecDepth 100000 in
set_option maxHeartbeats 400000 in
theorem check_dead (w : World) (p : Option Addr) (id : Int) (body : ByteArray) (t : List UInt8) (ht : t.length = 16) (h : DeadK w p) :
    Calls Try.prog 57 #[.pointer p, .int .i64 id, .string body, .agg (bv t).toArray] w fun e w' => e = .returned (.bool false) ∧ Same w w' := by
  have hsg := fun w h => sign_dead w p id body h
  unfold RetTag at hsg
  have hinfT := Lib.hid (tag_info ht)
  have hinfN := Lib.hid (tag_info noTag_length)
  replace hsg := Lib.hid hsg
  replace h := Lib.hid h
  replace ht := Lib.hid ht
  go_enter Try.func57, Try.ntmps57
  go_upto_region 1 with (refine box_row rfl _ _ rfl _ rfl hinfT.out ?_; intro w0 hbx hs0; clear hbx; replace hs0 := Lib.hid hs0)
  have hk0 := h.out.same hs0.out
  replace hk0 := Lib.hid hk0
  go_wp2_with fail
  refine (hsg.out _ hk0.out).mono ?_
  rintro e w1 ⟨rfl, hs1⟩
  replace hs1 := Lib.hid hs1
  go_upto_region 2 with (first | (refine alloc_new rfl 91 rfl (bv noTag).toArray (by kernel_rfl) ?_; intro w2 hb2 hs2; have hb2l := blk_lt hb2; replace hb2 := Lib.hid hb2; replace hs2 := Lib.hid hs2) | (refine store_row rfl _ _ _ rfl w1.heap.size _ rfl rfl _ _ hb2.out hinfN.out rfl (by simpa using bv_cell) ?_; intro w3 hb3 hk3))
  have hs13 : Same w1 w3 := hs2.out.keep hk3 (fun x hx hv => by omega)
  have hs03 := (hs0.out.trans hs1.out).trans hs13
  clear hk3 hs2 hb2 hb3 hs13
  replace hs03 := Lib.hid hs03
  go_simp
  go_wp2
  go_ret
  exact ⟨rfl, hs03.out⟩
set_option maxRecDepth 100000 in
set_option maxHeartbeats 1600000 in
theorem walk_SealNobody (w : World) (id : Int) (hid : (Lit.int .i64 id).wf = true) (body : ByteArray) (hb : body.size ≤ maxLen) (t : List UInt8) (ht : t.length = 16) :
    Calls Try.prog 11 #[.int .i64 id, .string body, .agg (bv t).toArray] w fun e w' => e = .returned (.bool true) ∧ Same w w' := by
  have hl := Lib.hid lives4
  have hinfT := Lib.hid (tag_info ht)
  have hinfN := Lib.hid (tag_info noTag_length)
  have hk := Lib.hid (fun w p h => klen_any w p ByteArray.empty 0 h)
  have hsg := fun w p h => sign_dead w p id body h
  unfold RetTag at hsg
  replace hsg := Lib.hid hsg
  have hck := Lib.hid (fun w p h => check_dead w p id body t ht h)
  have he := fun w => tag_neq noTag noTag noTag_length noTag_length w
  rw [show (noTag != noTag) = false from by simp] at he
  replace he := Lib.hid he
  clear hid
  replace ht := Lib.hid ht
  go_enter Try.func11, Try.ntmps11
  go_upto_region 1 with (refine box_row rfl _ _ rfl _ rfl hinfT.out ?_; intro w0 hbx hs0; have hbxl := blk_lt hbx; replace hbx := Lib.hid hbx; replace hs0 := Lib.hid hs0)
  go_wp2
  obtain ⟨w2, hw2⟩ : ∃ w2, w2 = w0.alloc (.cells #[.string ByteArray.empty, .int .i64 0] 94) := ⟨_, rfl⟩
  rw [show w0.alloc (.cells #[.string { data := #[] }, .int .i64 0] 94) = w2 from hw2.symm]
  obtain ⟨w3, hw3⟩ : ∃ w3, w3 = w2.alloc (.cells #[.pointer none, .pointer (some ⟨w0.heap.size, 0, none⟩)] 92) := ⟨_, rfl⟩
  rw [← hw3]
  have z2 : w2.heap.size = w0.heap.size + 1 := by rw [hw2]; simp
  have b2 : w2.heap[w0.heap.size]? = some (.cells #[.string ByteArray.empty, .int .i64 0] 94 (0, 0)) := by rw [hw2]; exact heap_alloc_new _ _
  have b3 : w3.heap[w0.heap.size + 1]? = some (.cells #[.pointer none, .pointer (some ⟨w0.heap.size, 0, none⟩)] 92 (0, 0)) := by rw [show w0.heap.size + 1 = w2.heap.size from z2.symm, hw3]; exact heap_alloc_new _ _
  have s2 : Same w0 w2 := by rw [hw2]; exact Same.refl.alloc _
  have s3 : Same w2 w3 := by rw [hw3]; exact Same.refl.alloc _
  have b23 := (s3.block _ (blk_lt b2)).trans b2
  have bx3 := ((s2.trans s3).block _ hbxl).trans hbx.out
  have s03 := hs0.out.trans (s2.trans s3)
  clear s2 s3 b2 z2 hw3 hw2 hs0 hbx
  replace b23 := Lib.hid b23
  replace bx3 := Lib.hid bx3
  replace b3 := Lib.hid b3
  replace s03 := Lib.hid s03
  go_loopw [15] (fun i wr => ∃ j : Nat, j ≤ 2 ∧ i = .int .i64 j ∧ Same w3 wr) (fun i _ => 2 - (intOf i).toNat)
  case atStart => exact ⟨0, by omega, rfl, Same.refl⟩
  case round =>
    obtain ⟨j, hj, rfl, hs⟩ := hrel
    by_cases hlt : j < 2
    · obtain ⟨p, hc, hd⟩ : ∃ p, wr.cell? ⟨w0.heap.size + 1, j, none⟩ = some (.pointer p) ∧ DeadK wr p := by
        have c3 := fun i => blk_cell ((hs.block _ (blk_lt b3.out)).trans b3.out) i
        rcases j with _ | _ | j
        · exact ⟨none, by rw [c3]; rfl, .inl rfl⟩
        · exact ⟨some ⟨w0.heap.size, 0, none⟩, by rw [c3]; rfl, .inr ⟨_, rfl, (hs.block _ (blk_lt b23.out)).trans b23.out⟩⟩
        · omega
      have q0 : 0 ≤ (j : Int) := by omega
      have q1 : (j : Int) < 2 := by omega
      have hbxr := (hs.block _ (blk_lt bx3.out)).trans bx3.out
      have hsg1 := hsg.out wr p hd
      have hbxrl := blk_lt hbxr
      replace hd := Lib.hid hd
      replace hs := Lib.hid hs
      replace hbxr := Lib.hid hbxr
      replace hsg1 := Lib.hid hsg1
      go_wp2_with fail
      refine hsg1.out.mono ?_
      rintro e w4 ⟨rfl, hs4⟩
      have hd4 := hd.out.same hs4
      have hbx4 := (hs4.block _ hbxrl).trans hbxr.out
      replace hs4 := Lib.hid hs4
      replace hd4 := Lib.hid hd4
      have hbx4l := blk_lt hbx4
      replace hbx4 := Lib.hid hbx4
      clear hd hbxr hsg1 hc
      go_upto_region 5 with (first | (refine alloc_new rfl 91 rfl (bv noTag).toArray (by kernel_rfl) ?_; intro w5 hb5 hs5; have hb5l := blk_lt hb5; replace hb5 := Lib.hid hb5; replace hs5 := Lib.hid hs5) | (refine store_row rfl _ _ _ rfl w4.heap.size _ rfl rfl _ _ hb5.out hinfN.out rfl (by simpa using bv_cell) ?_; intro w6 hb6 hk6))
      have hs46 : Same w4 w6 := hs5.out.keep hk6 (fun x hx hv => by omega)
      have hd6 := hd4.out.same hs46
      have hbx6 := (hs46.block _ hbx4l).trans hbx4.out
      have hs36 := (hs.out.trans hs4.out).trans hs46
      have hck1 := hck.out w6 p hd6
      have hbx6l := blk_lt hbx6
      clear hk6 hs5 hb5 hs46 hs hs4 hd4 hbx4
      replace hd6 := Lib.hid hd6
      replace hb6 := Lib.hid hb6
      replace hbx6 := Lib.hid hbx6
      replace hs36 := Lib.hid hs36
      replace hck1 := Lib.hid hck1
      have he' := he.out
      have hgd := tag_guard
      go_simp
      go_wp2_with (first | (refine load_row rfl _ _ rfl w4.heap.size rfl _ _ _ _ hb6.out Try.underlying91 rfl hinfN.out ?_) | (refine build_const (ty := 91) (.agg (bv noTag).toArray) rfl rfl (by kernel_rfl) ?_) | (refine load_row rfl _ _ rfl w.heap.size rfl _ _ _ _ hbx6.out Try.underlying91 rfl hinfT.out ?_))
      clear he' hgd
      refine hck1.out.mono ?_
      rintro e w7 ⟨rfl, hs7⟩
      have hd7 := hd6.out.same hs7
      have hs37 := hs36.out.trans hs7
      clear hs7 hs36 hd6 hck1
      replace hs37 := Lib.hid hs37
      have hk7 := Lib.hid (hk.out w7 p hd7.keys)
      clear hd7
      go_wp2_with fail
      refine hk7.out.mono ?_
      rintro e w8 ⟨rfl, rfl⟩
      go_wp2
      go_roundw
      case rel => exact ⟨j + 1, by omega, by go_num, hs37.out⟩
      case measure => simp [intOf]; omega
    · obtain rfl : j = 2 := by omega
      go_wp2_with fail
      refine (hl.out _).mono ?_
      rintro e w5 ⟨rfl, hs5⟩
      go_wp2
      go_ret
      exact ⟨rfl, (s03.out.trans hs).trans hs5⟩
end Go.Proofs.Ytejdiganmghopaa
