/-
  The document's tally (raddleref01): digits, Put, PutText, Size.
-/
import Derived.Test.YtmacgmmjgdmleaaReads
namespace Go.Proofs.Ytmacgmmjgdmleaa
open Go Go.RowKit
set_option linter.unusedSimpArgs false
set_option linter.unusedVariables false

theorem Own.box {w : World} {l : List Value} {e : TypeId} {sz n : Nat} (hl : l.length = n * sz) (hm : n ≤ maxLen) : Own (w.alloc (.cells l.toArray e)) w.heap.size e sz (.slice (some ⟨w.heap.size, 0, none⟩) n n) n l :=
  ⟨hl, .inr ⟨w.heap.size, n, l.toArray, rfl, Nat.le_refl _, heap_alloc_new w _, Nat.le_refl _, hm, by simpa using hl, by simp [← hl]⟩⟩

set_option maxRecDepth 100000 in
set_option maxHeartbeats 400000 in
theorem digits_nat (n : Nat) (w : World) (hn : n ≤ 9223372036854775807) :
    Calls Try.prog 176 #[.int .i64 n] w (RetB w (Num.beN (Num.nd n) n)) := by
  have h8 := Num.nd_eight hn
  go_enter Try.func176, Try.ntmps176
  go_wp2
  go_loopw [0, 3] (fun x v wr => ∃ m j : Nat, x = .int .i64 m ∧ m ≤ n ∧ j ≤ 8 ∧ Own wr w.heap.size 5 1 v j (bv (Num.beN j n)) ∧ (m = n / 256 ^ j ∧ j + Num.nd m = Num.nd n) ∧ Same w wr) (fun x _ _ => (intOf x).toNat)
  case atStart => exact ⟨n, 0, rfl, Nat.le_refl _, by omega, Own.nil _ _ _ _, ⟨by simp, by simp⟩, Same.refl⟩
  case round =>
    obtain ⟨m, j, rfl, hm, hj, hown, hmj, hs⟩ := hrel
    replace hmj := Lib.hid hmj
    have hsz := hs.size
    by_cases h0 : 0 < m
    · have hbox := Own.lower (Own.box (w := wr) (l := [.int .u8 ((m : Int) % 256)]) (e := 5) (sz := 1) (n := 1) rfl (by unfold maxLen; omega)) hsz
      obtain ⟨ao, c, rfl, hsl⟩ := hown.sl
      have hsl2 := hsl.same (Same.alloc Same.refl (.cells #[.int .u8 ((m : Int) % 256)] 5))
      go_wp2_with (at_builtin; refine append_sl rfl _ _ rfl byT hbox rfl rfl hsl2 bv_cell (by simp; omega) (by omega) (by omega) ?_)
      intro v' w2 ho hk _
      have e1 : Value.int .u8 ((m : Int) % 256) :: bv (Num.beN j n) = bv (Num.beN (j + 1) n) := by
        rw [Num.beN_succ, ← hmj.out.1]
        simp [bv]
      rw [e1, Nat.add_comm 1 j] at ho
      clear e1 hbox hsl2
      go_wp2
      go_roundw
      case rel =>
        have h2 := Num.nd_pos h0
        have h3 := hmj.out.2
        have h4 := Num.nd_eight hn
        refine ⟨m / 256, j + 1, by go_num, by omega, by omega, ho, ⟨?_, by omega⟩, ?_⟩
        · rw [hmj.out.1, Nat.div_div_eq_div_mul, Nat.pow_succ]
        · exact (hs.alloc _).keep hk (fun x hx hv => by simp [Value.ownBlock] at hv; omega)
      case measure => simp [intOf]; omega
    · obtain rfl : m = 0 := by omega
      go_wp2
      go_ret
      have h3 := hmj.out.2
      rw [Num.nd_zero, Nat.add_zero] at h3
      refine ⟨_, rfl, ?_, hs⟩
      rw [Num.beN_length, ← h3]
      exact hown
set_option maxRecDepth 100000 in
set_option maxHeartbeats 400000 in
theorem digits_neg (n : Int) (w : World) (hn : n < 0) :
    Calls Try.prog 176 #[.int .i64 n] w (RetB w []) := by
  go_enter Try.func176, Try.ntmps176
  go_wp2
  go_loopw [0, 3] (fun x v wr => x = .int .i64 n ∧ v = .slice none 0 0 ∧ wr = w) (fun _ _ _ => 0)
  case atStart => exact ⟨rfl, rfl, rfl⟩
  case round =>
    obtain ⟨rfl, rfl, rfl⟩ := hrel
    go_wp2
    go_ret
    exact ⟨_, rfl, Own.nil _ _ _ _, Same.refl⟩
set_option maxRecDepth 100000 in
set_option maxHeartbeats 400000 in
theorem rput_neg (ao : Option Addr) (len cap : Nat) (xs : List UInt8) (n : Int) (w : World) (hsl : Sl w 1 ao len cap (bv xs)) (hmax : len ≤ 140737488000000) (hn : n < 0) :
    Calls Try.prog 142 #[.slice ao len cap, .int .i64 n] w (RetB w xs) := by
  have hlen : xs.length = len := by have := hsl.len; rw [bv_length] at this; omega
  replace hlen := Lib.hid hlen
  have hown := Own.empty w 5 1
  have hsl2 := hsl.same (Same.alloc Same.refl (.cells #[] 5))
  go_enter Try.func142, Try.ntmps142
  go_wp2_with (at_builtin; refine append_sl rfl _ _ rfl byT hown rfl rfl hsl2 bv_cell (by simp) (by omega) (by omega) ?_)
  intro v' w2 ho hk _
  go_wp2
  go_ret
  refine ⟨_, rfl, ?_, ?_⟩
  · rw [hlen.out]
    exact ho
  · exact (Same.alloc Same.refl _).keep hk (fun x hx hv => by simp [Value.ownBlock] at hv; omega)
set_option maxRecDepth 100000 in
set_option maxHeartbeats 400000 in
theorem rput_nat (ao : Option Addr) (len cap : Nat) (xs : List UInt8) (n : Nat) (w : World) (hsl : Sl w 1 ao len cap (bv xs)) (hmax : len ≤ 140737488000000) (hn : n ≤ 9223372036854775807) :
    Calls Try.prog 142 #[.slice ao len cap, .int .i64 n] w (RetB w (xs ++ Num.putN n)) := by
  have hlen : xs.length = len := by have := hsl.len; rw [bv_length] at this; omega
  replace hlen := Lib.hid hlen
  have hown := Own.empty w 5 1
  have hsl2 := hsl.same (Same.alloc Same.refl (.cells #[] 5))
  have h8 := Num.nd_eight hn
  have hdig := fun w => digits_nat n w hn
  replace hdig := Lib.hid hdig
  go_enter Try.func142, Try.ntmps142
  go_wp2_with (at_builtin; refine append_sl rfl _ _ rfl byT hown rfl rfl hsl2 bv_cell (by simp) (by omega) (by omega) ?_)
  intro v' w2 ho hk _
  have hs1 : Same w w2 := (Same.alloc Same.refl _).keep hk (fun x hx hv => by simp [Value.ownBlock] at hv; omega)
  clear hk hown hsl2
  go_wp2_with fail
  refine (hdig.out _).mono ?_
  rintro e w3 ⟨d, rfl, hd, hs2⟩
  have ho3 := ho.same hs2
  have hs3 := hs1.trans hs2
  have hsz := hs3.size
  obtain ⟨k, hk⟩ : ∃ k, k = Num.nd n := ⟨_, rfl⟩
  rw [Num.beN_length, ← hk] at hd
  rw [← hk] at h8
  obtain ⟨ad, cd, rfl, hdsl⟩ := hd.sl
  have hapart : ∀ b, v'.ownBlock = some b → ∀ x, ad = some x → x.block ≠ b := by
    intro b hb x hx
    subst hx
    have h1 := ho.lt b hb
    have h2 := hd.base x.block rfl
    omega
  clear ho hd
  replace hk := Lib.hid hk
  replace hapart := Lib.hid hapart
  go_wp2_with (at_builtin; refine append_own (l := [.int .u8 (k : Int)]) rfl _ _ rfl byT ho3 rfl rfl rfl (by simp [Value.oneCell']) hsz (by omega) (by omega) ?_)
  intro v4 w4 ho4 hk4 _
  have hs4 : Same w w4 := hs3.keep hk4 (fun x hx hv => by have := ho3.base x hv; omega)
  have hd4 := hdsl.keep hk4 (fun b hb _ hv => hapart.out b.block hv b hb rfl)
  have hsz4 := hs4.size
  rw [byte_low (by omega), ← bv_append] at ho4
  clear hk4 hs3 ho3 hdsl
  go_wp2_with (at_builtin; refine append_sl rfl _ _ rfl byT ho4 rfl rfl hd4 bv_cell hsz4 (by omega) (by omega) ?_)
  intro v5 w5 ho5 hk5 _
  have hs5 : Same w w5 := hs4.keep hk5 (fun x hx hv => by have := ho4.base x hv; omega)
  rw [← bv_append] at ho5
  go_wp2
  go_ret
  refine ⟨_, rfl, ?_, hs5⟩
  have e1 : xs ++ [UInt8.ofNat k] ++ Num.beN k n = xs ++ Num.putN n := by
    rw [hk.out, Num.putN, List.append_assoc]
    rfl
  have e2 : (xs ++ Num.putN n).length = len + 1 + k := by
    rw [List.length_append, hlen.out, Num.putN_length, ← hk.out]
    omega
  rw [e1] at ho5
  rw [e2]
  exact ho5
theorem rput_any (ao : Option Addr) (len cap : Nat) (xs : List UInt8) (n : Int) (w : World) (hsl : Sl w 1 ao len cap (bv xs)) (hmax : len ≤ 140737488000000) (hn : n ≤ 9223372036854775807) :
    Calls Try.prog 142 #[.slice ao len cap, .int .i64 n] w (RetB w (xs ++ Num.putI n)) := by
  rcases Int.lt_or_le n 0 with h | h
  · rw [Num.putI_neg h, List.append_nil]
    exact rput_neg ao len cap xs n w hsl hmax h
  · obtain ⟨m, rfl⟩ := Int.eq_ofNat_of_zero_le h
    rw [Num.putI_nat]
    exact rput_nat ao len cap xs m w hsl hmax (by omega)
set_option maxRecDepth 100000 in
set_option maxHeartbeats 400000 in
theorem rputText_any (ao : Option Addr) (len cap : Nat) (xs : List UInt8) (s : ByteArray) (w : World) (hsl : Sl w 1 ao len cap (bv xs)) (hmax : len ≤ 40737488000000) (hs : s.size ≤ 40737488000000) :
    Calls Try.prog 183 #[.slice ao len cap, .string s] w (RetB w (xs ++ Num.putT s.data.toList)) := by
  have hlen : xs.length = len := by have := hsl.len; rw [bv_length] at this; omega
  replace hlen := Lib.hid hlen
  have hput := rput_nat ao len cap xs s.size w hsl (by omega) (by omega)
  replace hput := Lib.hid hput
  have h9 := Num.putN_le (n := s.size) (by omega)
  go_enter Try.func183, Try.ntmps183
  go_wp2_with fail
  refine hput.out.mono ?_
  rintro e w' ⟨v, rfl, ho, hk⟩
  have hks := hk.size
  have hl1 : (xs ++ Num.putN s.size).length + s.size ≤ 140737488355328 := by rw [List.length_append, hlen.out]; omega
  go_wp2_with (at_builtin; refine append_str rfl _ _ rfl byT strT ho rfl rfl hks hl1 ?_)
  intro v' w2 ho2 hk2
  rw [← bv_append] at ho2
  go_wp2
  go_ret
  refine ⟨_, rfl, ?_, hk.keep hk2 (fun x hx hv => by have := ho.base x hv; omega)⟩
  have e : xs ++ Num.putT s.data.toList = xs ++ Num.putN s.size ++ s.data.toList := by
    rw [Num.putT, List.append_assoc]
    rfl
  have e2 : (xs ++ Num.putN s.size ++ s.data.toList).length = xs.length + (Num.putN s.size).length + s.size := by
    rw [List.length_append, List.length_append]
    rfl
  rw [e, e2]
  exact ho2
end Go.Proofs.Ytmacgmmjgdmleaa
