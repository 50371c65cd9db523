/-
  tally's Read, Num, Text, Raw, Left, Done, as the words of Num tell them.
-/
import Derived.Test.YtmacgmmjgdmleaaReader
namespace Go.Proofs.Ytmacgmmjgdmleaa
open Go Go.RowKit
set_option linter.unusedSimpArgs false
set_option linter.unusedVariables false

/-- A number is told, the reader goes on. -/
def RetNum (w : World) (rb db : Nat) (x : Nat × (List UInt8 × Nat)) (e : Ending) (w' : World) : Prop := e = .returned (.int .i64 (x.1 : Int)) ∧ Rdr w' rb db x.2 ∧ Keep (· = rb) w w'
theorem stop_true {w : World} {rb db : Nat} {s : List UInt8 × Nat} (h : Rdr w rb db s) (he : s.2 ≠ 0) : Calls Try.prog 152 #[.pointer (some ⟨rb, 0, none⟩)] w fun en w' => en = .returned (.bool true) ∧ w = w' := by
  have := stopped_any rb db s w h
  simpa [he] using this
theorem stop_false {w : World} {rb db : Nat} {s : List UInt8 × Nat} (h : Rdr w rb db s) (he : s.2 = 0) : Calls Try.prog 152 #[.pointer (some ⟨rb, 0, none⟩)] w fun en w' => en = .returned (.bool false) ∧ w = w' := by
  have := stopped_any rb db s w h
  simpa [he] using this
theorem Rdr.number {w : World} {rb db : Nat} {s : List UInt8 × Nat} (h : Rdr w rb db s) {n size e : Nat} (hn : Num.numAt s.1 = (n, size, e)) :
    Calls Try.prog 153 #[.pointer (some ⟨rb, 0, none⟩)] w fun en w' => en = .returned (.tuple #[.int .i64 n, .int .i64 size, .int .i64 e]) ∧ w = w' := by
  obtain ⟨ao, m, c, hb, hsl, _⟩ := h
  have c0 := blk_cell hb 0
  simp at c0
  have := number_any rb m c ao s.1 w c0 hsl
  rw [hn] at this
  exact this

set_option maxRecDepth 100000 in
set_option maxHeartbeats 400000 in
theorem num_any (rb db : Nat) (s : List UInt8 × Nat) (most : Int) (w : World) (h : Rdr w rb db s) :
    Calls Try.prog 99 #[.pointer (some ⟨rb, 0, none⟩), .int .i64 most] w (RetNum w rb db (Num.rNum s most)) := by
  by_cases he : s.2 ≠ 0
  · have hst := Lib.hid (stop_true h he)
    have hr : Num.rNum s most = (0, s) := by rw [Num.rNum, if_pos he]
    rw [hr]
    clear he hr
    go_enter Try.func99, Try.ntmps99
    go_wp2_with fail
    refine hst.out.mono ?_
    rintro e w' ⟨rfl, rfl⟩
    go_wp2
    go_ret
    exact ⟨rfl, h, Keep.refl⟩
  · have he0 : s.2 = 0 := by simpa using he
    have hst := Lib.hid (stop_false h he0)
    rcases Num.numAt_cases s.1 with ⟨e, hn, hee⟩ | ⟨n, size, hn, hs0, hs9, hsl, hmax, htake⟩
    · have hnum := Lib.hid (h.number hn)
      have hr : Num.rNum s most = (0, ([], e)) := by
        rw [Num.rNum, if_neg he, hn]
        simp only
        rw [if_pos (by omega)]
      have hfail := Lib.hid (fail_any rb db s e w h (by omega))
      have h1 : ((e : Int) == 0) = false := by simp; omega
      have h2 : ((e : Int) != 0) = true := by simp; omega
      rw [hr]
      clear hr hn he he0 hee
      go_enter Try.func99, Try.ntmps99
      go_wp2_with fail
      refine hst.out.mono ?_
      rintro e w' ⟨rfl, rfl⟩
      go_wp2_with fail
      refine hnum.out.mono ?_
      rintro e w' ⟨rfl, rfl⟩
      go_wp2_with fail
      refine hfail.out.mono ?_
      rintro e w' ⟨rfl, hr, hk⟩
      go_wp2
      go_ret
      exact ⟨rfl, hr, hk⟩
    · have hnum := Lib.hid (h.number hn)
      by_cases hm : most < (n : Int)
      · have hr : Num.rNum s most = (0, ([], 3)) := by
          rw [Num.rNum, if_neg he, hn]
          simp only
          rw [if_neg (by simp), if_pos hm]
        have hfail := Lib.hid (fail_any rb db s 3 w h (by omega))
        rw [hr]
        clear hr hn he he0 htake
        go_enter Try.func99, Try.ntmps99
        go_wp2_with fail
        refine hst.out.mono ?_
        rintro e w' ⟨rfl, rfl⟩
        go_wp2_with fail
        refine hnum.out.mono ?_
        rintro e w' ⟨rfl, rfl⟩
        go_wp2_with fail
        refine hfail.out.mono ?_
        rintro e w' ⟨rfl, hr, hk⟩
        go_wp2
        go_ret
        exact ⟨rfl, hr, hk⟩
      · have hr : Num.rNum s most = (n, (s.1.drop size, 0)) := by
          rw [Num.rNum, if_neg he, hn]
          simp only
          rw [if_neg (by simp), if_neg hm]
        have htk := Lib.hid (take_any rb db s size w h hsl)
        rw [hr]
        replace he0 := Lib.hid he0
        clear hr hn he htake
        go_enter Try.func99, Try.ntmps99
        go_wp2_with fail
        refine hst.out.mono ?_
        rintro e w' ⟨rfl, rfl⟩
        go_wp2_with fail
        refine hnum.out.mono ?_
        rintro e w' ⟨rfl, rfl⟩
        go_wp2_with fail
        refine htk.out.mono ?_
        rintro e w' ⟨ao, c, rfl, hsl', hne', hr, hk⟩
        go_wp2
        go_ret
        rw [he0.out] at hr
        exact ⟨rfl, hr, hk⟩

/-- A text is told, the reader goes on. -/
def RetText (w : World) (rb db : Nat) (x : List UInt8 × (List UInt8 × Nat)) (e : Ending) (w' : World) : Prop := e = .returned (.string ⟨x.1.toArray⟩) ∧ Rdr w' rb db x.2 ∧ Keep (· = rb) w w'
/-- Bytes are told in a row of the call's own (or nil), the reader goes on. -/
def RetRaw (w : World) (rb db : Nat) (x : List UInt8 × (List UInt8 × Nat)) (e : Ending) (w' : World) : Prop := ∃ v, e = .returned v ∧ Own w' w.heap.size 5 1 v x.1.length (bv x.1) ∧ Rdr w' rb db x.2 ∧ Keep (· = rb) w w'
theorem empty_string : (Value.string { data := #[] }) = .string ⟨([] : List UInt8).toArray⟩ := rfl

theorem Rdr.len {w : World} {rb db : Nat} {s : List UInt8 × Nat} (h : Rdr w rb db s) : s.1.length ≤ 9223372036854775807 := by
  obtain ⟨ao, n, c, hb, hsl, _⟩ := h
  have h1 := hsl.len
  have h2 := hsl.cap
  have h3 := hsl.most
  unfold maxLen at h3
  rw [bv_length] at h1
  omega
set_option maxRecDepth 100000 in
set_option maxHeartbeats 400000 in
theorem done_any (rb db : Nat) (s : List UInt8 × Nat) (w : World) (h : Rdr w rb db s) :
    Calls Try.prog 103 #[.pointer (some ⟨rb, 0, none⟩)] w fun en w' => en = .returned (.int .i64 (Num.rDone s)) ∧ w = w' := by
  have herr := Lib.hid (err_any rb db s w h)
  have hleft := Lib.hid (left_any rb db s w h)
  unfold Num.rDone
  by_cases he : s.2 ≠ 0
  · rw [if_pos he]
    have h1 : ((s.2 : Int) != 0) = true := by simp; omega
    clear he
    go_enter Try.func103, Try.ntmps103
    go_wp2_with fail
    refine herr.out.mono ?_
    rintro e w' ⟨rfl, rfl⟩
    go_wp2
    go_ret
    exact ⟨rfl, rfl⟩
  · rw [if_neg he]
    have h1 : ((s.2 : Int) != 0) = false := by simp; omega
    clear he
    by_cases hl : 0 < s.1.length
    · rw [if_pos hl]
      go_enter Try.func103, Try.ntmps103
      go_wp2_with fail
      refine herr.out.mono ?_
      rintro e w' ⟨rfl, rfl⟩
      go_wp2_with fail
      refine hleft.out.mono ?_
      rintro e w' ⟨rfl, rfl⟩
      go_wp2
      go_ret
      exact ⟨rfl, rfl⟩
    · rw [if_neg hl]
      go_enter Try.func103, Try.ntmps103
      go_wp2_with fail
      refine herr.out.mono ?_
      rintro e w' ⟨rfl, rfl⟩
      go_wp2_with fail
      refine hleft.out.mono ?_
      rintro e w' ⟨rfl, rfl⟩
      go_wp2
      go_ret
      exact ⟨rfl, rfl⟩
set_option maxRecDepth 100000 in
set_option maxHeartbeats 400000 in
theorem raw_stop (rb db : Nat) (s : List UInt8 × Nat) (n : Int) (w : World) (h : Rdr w rb db s) (he : s.2 ≠ 0) :
    Calls Try.prog 100 #[.pointer (some ⟨rb, 0, none⟩), .int .i64 n] w (RetRaw w rb db ([], s)) := by
  have hst := Lib.hid (stop_true h he)
  clear he
  go_enter Try.func100, Try.ntmps100
  go_wp2_with fail
  refine hst.out.mono ?_
  rintro e w' ⟨rfl, rfl⟩
  go_wp2
  go_ret
  exact ⟨_, rfl, Own.nil _ _ _ _, h, Keep.refl⟩
set_option maxRecDepth 100000 in
set_option maxHeartbeats 400000 in
theorem raw_neg (rb db : Nat) (s : List UInt8 × Nat) (n : Int) (w : World) (h : Rdr w rb db s) (he : s.2 = 0) (hn : n < 0) :
    Calls Try.prog 100 #[.pointer (some ⟨rb, 0, none⟩), .int .i64 n] w (RetRaw w rb db ([], ([], 2))) := by
  have hst := Lib.hid (stop_false h he)
  have hfail := Lib.hid (fail_any rb db s 2 w h (by omega))
  clear he
  go_enter Try.func100, Try.ntmps100
  go_wp2_with fail
  refine hst.out.mono ?_
  rintro e w' ⟨rfl, rfl⟩
  go_wp2_with fail
  refine hfail.out.mono ?_
  rintro e w' ⟨rfl, hr, hk⟩
  go_wp2
  go_ret
  exact ⟨_, rfl, Own.nil _ _ _ _, hr, hk⟩
set_option maxRecDepth 100000 in
set_option maxHeartbeats 400000 in
theorem raw_cut (rb db : Nat) (s : List UInt8 × Nat) (n : Int) (w : World) (h : Rdr w rb db s) (he : s.2 = 0) (hn : 0 ≤ n) (hl : (s.1.length : Int) < n) :
    Calls Try.prog 100 #[.pointer (some ⟨rb, 0, none⟩), .int .i64 n] w (RetRaw w rb db ([], ([], 10))) := by
  have hst := Lib.hid (stop_false h he)
  have hleft := Lib.hid (left_any rb db s w h)
  have hfail := Lib.hid (fail_any rb db s 10 w h (by omega))
  clear he
  go_enter Try.func100, Try.ntmps100
  go_wp2_with fail
  refine hst.out.mono ?_
  rintro e w' ⟨rfl, rfl⟩
  go_wp2_with fail
  refine hleft.out.mono ?_
  rintro e w' ⟨rfl, rfl⟩
  go_wp2_with fail
  refine hfail.out.mono ?_
  rintro e w' ⟨rfl, hr, hk⟩
  go_wp2
  go_ret
  exact ⟨_, rfl, Own.nil _ _ _ _, hr, hk⟩
set_option maxRecDepth 100000 in
set_option maxHeartbeats 400000 in
theorem raw_ok (rb db : Nat) (s : List UInt8 × Nat) (n : Nat) (w : World) (h : Rdr w rb db s) (he : s.2 = 0) (hl : n ≤ s.1.length) (hl2 : s.1.length ≤ 140737488000000) :
    Calls Try.prog 100 #[.pointer (some ⟨rb, 0, none⟩), .int .i64 n] w (RetRaw w rb db (s.1.take n, (s.1.drop n, 0))) := by
  have hst := Lib.hid (stop_false h he)
  have hleft := Lib.hid (left_any rb db s w h)
  replace he := Lib.hid he
  go_enter Try.func100, Try.ntmps100
  go_wp2_with fail
  refine hst.out.mono ?_
  rintro e w' ⟨rfl, rfl⟩
  go_wp2_with fail
  refine hleft.out.mono ?_
  rintro e w' ⟨rfl, rfl⟩
  have htk := Lib.hid (take_any rb db s n (w.alloc (.cells #[] 5)) (h.same (Same.alloc Same.refl _)) hl)
  have hown := Own.empty w 5 1
  go_wp2_with fail
  refine htk.out.mono ?_
  rintro e w' ⟨ao, c, rfl, hsl, _, hr, hk⟩
  obtain ⟨hrlt, hdlt, _⟩ := h.lt
  have hown2 := hown.keep hk (fun b hb => by injection hb with hb; simp at hb; omega)
  have hks := hk.size
  simp at hks
  go_wp2_with (at_builtin; refine append_sl rfl _ _ rfl byT hown2 rfl rfl hsl bv_cell (by omega) (by omega) (by omega) ?_)
  intro v' w2 ho hk2 hat
  go_wp2
  go_ret
  rw [he.out] at hr
  have hk0 : Keep (· = rb) w (w.alloc (.cells #[] 5)) := Keep.alloc _
  have hk3 : Keep (fun k => some w.heap.size = some k) w' w2 := hk2
  refine ⟨_, rfl, ?_, hr.keep hk3 (by simp; omega) (by simp; omega), (hk0.trans hk (fun _ _ h => h)).trans hk3 (fun x hx hv => by simp at hv; omega)⟩
  have e : (s.1.take n, s.1.drop n, 0).1.length = 0 + n := by
    show (s.1.take n).length = 0 + n
    rw [List.length_take]
    omega
  rw [e, Nat.zero_add]
  exact ho
theorem raw_any (rb db : Nat) (s : List UInt8 × Nat) (n : Int) (w : World) (h : Rdr w rb db s) (hl2 : s.1.length ≤ 140737488000000) :
    Calls Try.prog 100 #[.pointer (some ⟨rb, 0, none⟩), .int .i64 n] w (RetRaw w rb db (Num.rRaw s n)) := by
  unfold Num.rRaw
  by_cases he : s.2 ≠ 0
  · rw [if_pos he]
    exact raw_stop rb db s n w h he
  · rw [if_neg he]
    have he0 : s.2 = 0 := by simpa using he
    by_cases hn : n < 0
    · rw [if_pos hn]
      exact raw_neg rb db s n w h he0 hn
    · rw [if_neg hn]
      by_cases hl : (s.1.length : Int) < n
      · rw [if_pos hl]
        exact raw_cut rb db s n w h he0 (by omega) hl
      · rw [if_neg hl]
        obtain ⟨m, rfl⟩ := Int.eq_ofNat_of_zero_le (by omega : 0 ≤ n)
        exact raw_ok rb db s m w h he0 (by omega) hl2
/-- A new reader of these bytes. -/
def RetRead (w : World) (l : List UInt8) (e : Ending) (w' : World) : Prop := ∃ rb db, e = .returned (.pointer (some ⟨rb, 0, none⟩)) ∧ Rdr w' rb db (l, 0) ∧ w.heap.size ≤ rb ∧ w.heap.size ≤ db ∧ Same w w'
set_option maxRecDepth 100000 in
set_option maxHeartbeats 400000 in
theorem read_any (ao : Option Addr) (len cap : Nat) (xs : List UInt8) (w : World) (hsl : Sl w 1 ao len cap (bv xs)) (hmax : len ≤ 140737488000000) :
    Calls Try.prog 98 #[.slice ao len cap] w (RetRead w xs) := by
  have hlen : xs.length = len := by have := hsl.len; rw [bv_length] at this; omega
  replace hlen := Lib.hid hlen
  have hown := Own.empty w 5 1
  have hsl2 := hsl.same (Same.alloc Same.refl (.cells #[] 5))
  go_enter Try.func98, Try.ntmps98
  go_wp2_with (at_builtin; refine append_sl rfl _ _ rfl byT hown rfl rfl hsl2 bv_cell (by simp) (by omega) (by omega) ?_)
  intro v' w2 ho hk2 hat
  obtain ⟨ao2, c2, rfl, hsl3⟩ := ho.sl
  go_wp2
  go_ret
  have hk0 : Keep (fun k => some w.heap.size = some k) w (w.alloc (.cells #[] 5)) := Keep.alloc _
  have hk3 : Keep (fun k => some w.heap.size = some k) (w.alloc (.cells #[] 5)) w2 := hk2
  have hs2 : Same w w2 := (hk0.trans hk3 (fun _ _ h => h)).same (fun x hx hv => by simp at hv; omega)
  have hsz := hs2.size
  refine ⟨w2.heap.size, (ao2.map (·.block)).getD w.heap.size, rfl, ⟨ao2, len, c2, heap_alloc_new _ _, ?_, ?_, by simp, ?_, ?_⟩, hsz, ?_, hs2.alloc _⟩
  · exact hsl3.same (Same.alloc Same.refl _)
  · rintro b rfl
    rfl
  · rcases ao2 with _ | b
    · simp only [Option.map_none, Option.getD_none]
      have := hk2.size
      simp at this
      omega
    · have := ho.lt b.block rfl
      simp only [Option.map_some, Option.getD_some]
      omega
  · rcases ao2 with _ | b
    · simp only [Option.map_none, Option.getD_none]
      simp
      omega
    · have := ho.lt b.block rfl
      simp only [Option.map_some, Option.getD_some]
      simp
      omega
  · rcases ao2 with _ | b
    · simp
    · have := ho.base b.block rfl
      simp only [Option.map_some, Option.getD_some]
      omega
end Go.Proofs.Ytmacgmmjgdmleaa
