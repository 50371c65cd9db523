/-
  The digest's Sum and Chain.
-/
import Derived.Test.YtmacgmmjgdmleaaSha6
namespace Go.Proofs.Ytmacgmmjgdmleaa
open Go Go.RowKit
set_option linter.unusedSimpArgs false
set_option linter.unusedVariables false

/-- Slices of bytes, one behind the other. -/
def Sls (w : World) (vs : List Value) (bs : List (List UInt8)) : Prop :=
  vs.length = bs.length ∧ ∀ j, j < bs.length → ∃ ao n c, vs[j]? = some (.slice ao n c) ∧ Sl w 1 ao n c (bv (bs.getD j []))
theorem Sls.same {w w' : World} {vs : List Value} {bs : List (List UInt8)} (h : Sls w vs bs) (k : Same w w') : Sls w' vs bs :=
  ⟨h.1, fun j hj => by
    obtain ⟨ao, n, c, h1, h2⟩ := h.2 j hj
    exact ⟨ao, n, c, h1, h2.same k⟩⟩
theorem take_flat {bs : List (List UInt8)} {k : Nat} (h : k < bs.length) : (bs.take (k + 1)).flatten = (bs.take k).flatten ++ bs.getD k [] := by
  rw [List.take_add_one, List.flatten_append]
  simp [List.getD, h]
theorem take_flat_le {bs : List (List UInt8)} (k : Nat) : (bs.take k).flatten.length ≤ bs.flatten.length := by
  have : bs.flatten = (bs.take k).flatten ++ (bs.drop k).flatten := by rw [← List.flatten_append, List.take_append_drop]
  rw [this, List.length_append]
  omega
set_option maxRecDepth 100000 in
set_option maxHeartbeats 1600000 in
theorem sum_any (po : Option Addr) (pn pc : Nat) (vs : List Value) (bs : List (List UInt8)) (w : World) (hsl : Sl w 1 po pn pc vs) (hp : Sls w vs bs) (hbig : bs.flatten.length < 2 ^ 50) :
    Calls Try.prog 145 #[.slice po pn pc] w fun e w' => e = .returned (.agg (bv (Sha.sum bs.flatten)).toArray) ∧ Same w w' := by
  have hbegun := Lib.hid begun_any
  have hlen : bs.length = pn := by have := hsl.len; have := hp.1; omega
  have hcap := hsl.cap
  have hmost := hsl.most
  unfold maxLen at hmost
  replace hsl := Lib.hid hsl
  replace hp := Lib.hid hp
  replace hbig := Lib.hid hbig
  replace hlen := Lib.hid hlen
  go_enter Try.func145, Try.ntmps145
  go_wp2_with (refine alloc_new rfl 28 rfl (bv (List.replicate 32 0)).toArray (by kernel_rfl) ?_; intro w1 hd hs1; replace hd := Lib.hid hd; replace hs1 := Lib.hid hs1)
  refine (hbegun.out _).mono ?_
  rintro e w2 ⟨sb, rfl, hsb, hst, hs2⟩
  have hd2 := (hs2.block _ (blk_lt hd.out)).trans hd.out
  have hs02 := hs1.out.trans hs2
  have hdb : w.heap.size < w1.heap.size := blk_lt hd.out
  replace hd2 := Lib.hid hd2
  replace hs02 := Lib.hid hs02
  replace hst := Lib.hid hst
  replace hs2 := Lib.hid hs2
  go_wp2
  go_loopw [9] (fun v wr => ∃ k : Nat, k ≤ pn ∧ v = .int .i64 k ∧ Strm wr sb (bs.take k).flatten ∧ Keep (· = sb) w2 wr) (fun v _ => pn - (intOf v).toNat)
  case atStart => exact ⟨0, by omega, rfl, by simpa using hst.out, Keep.refl⟩
  case round =>
    obtain ⟨k, hk, rfl, hst3, hk3⟩ := hrel
    by_cases hlt : k < pn
    · obtain ⟨ao, n, c, hv, hsk⟩ := hp.out.2 k (by rw [hlen.out]; exact hlt)
      have hvs : vs ≠ [] := by
        rintro rfl
        have := hp.out.1
        simp at this
        have := hlen.out
        omega
      obtain ⟨bk, off, rfl, hbk, hcell⟩ := hsl.out.at hvs
      have cv := hk3.cell (hs02.out.cell (hcell k _ hv)) (show ¬ bk = sb by omega)
      have hsk3 := (hsk.same hs02.out).keep hk3 (fun b hb hx => by have := hsk.lt hx hb; omega)
      have hne : bs.getD k [] ≠ [] → ∀ b, ao = some b → b.block ≠ sb := fun hx b hb => by
        have := hsk.lt (by intro h; exact hx (by simpa [bv] using h)) hb
        omega
      have hfl := take_flat (bs := bs) (k := k) (by rw [hlen.out]; exact hlt)
      have hle := take_flat_le (bs := bs) (k + 1)
      have hbg := hbig.out
      rw [hfl, List.length_append] at hle
      have hq := write_any sb (bs.take k).flatten (bs.getD k []) wr ao n c hsk3 hst3 (by omega) hne
      rw [← hfl] at hq
      have g0 : 0 ≤ (k : Int) := by omega
      have g1 : (k : Int) < (pn : Int) := by omega
      clear hcell hle hbg
      replace hq := Lib.hid hq
      replace hk3 := Lib.hid hk3
      replace hfl := Lib.hid hfl
      replace hst3 := Lib.hid hst3
      replace hsk := Lib.hid hsk
      replace hsk3 := Lib.hid hsk3
      replace hne := Lib.hid hne
      replace hv := Lib.hid hv
      go_wp2_with (fail)
      refine hq.out.mono ?_
      rintro e w5 ⟨rfl, hst5, hk5⟩
      replace hst5 := Lib.hid hst5
      replace hk5 := Lib.hid hk5
      go_wp2
      go_roundw
      case rel => exact ⟨k + 1, by omega, by go_num, hst5.out, hk3.out.trans hk5.out (fun _ _ h => h)⟩
      case measure => simp [intOf]; omega
    · obtain rfl : k = pn := by omega
      rw [← hlen.out, List.take_length] at hst3
      have hd3 := (hk3.block _ (blk_lt hd2.out) (by omega)).trans hd2.out
      have hinf : (Try.prog.info? 28).map (·.size) = some (bv (Sha.sum bs.flatten)).toArray.size := by
        rw [List.size_toArray, bv_length, Sha.sum_length]
        kernel_rfl
      have hone1 : (bv (Sha.sum bs.flatten)).toArray.all (·.oneCell') = true := by simpa using bv_cell
      have hend := end_any sb bs.flatten wr hst3 hbig.out
      replace hinf := Lib.hid hinf
      replace hend := Lib.hid hend
      replace hd3 := Lib.hid hd3
      replace hk3 := Lib.hid hk3
      replace hst3 := Lib.hid hst3
      go_wp2_with (fail)
      refine hend.out.mono ?_
      rintro e w5 ⟨rfl, hk5⟩
      have hd5 := (hk5.block _ (blk_lt hd3.out) (by omega)).trans hd3.out
      replace hd5 := Lib.hid hd5
      replace hk5 := Lib.hid hk5
      have hsz : (bv (List.replicate 32 0)).toArray.size = (bv (Sha.sum bs.flatten)).toArray.size := by simp [bv_length, Sha.sum_length]
      go_wp2_with (refine store_row rfl _ _ _ rfl w.heap.size _ rfl rfl _ _ hd5.out hinf.out hsz hone1 ?_; intro w9 hb9 hk9; replace hb9 := Lib.hid hb9; replace hk9 := Lib.hid hk9)
      refine bodyPost_ret (v := .agg (bv (Sha.sum bs.flatten)).toArray) (results_row (p := 2) (ty := 28) rfl _ _ w.heap.size _ _ _ _ rfl hb9.out Try.underlying28 rfl hinf.out) rfl ?_
      exact ⟨rfl, ((hs02.out.keep hk3.out (fun x hx h => by omega)).keep hk5.out (fun x hx h => by omega)).keep hk9.out (fun x hx h => by omega)⟩
end Go.Proofs.Ytmacgmmjgdmleaa
