/-
  tally's Size, Put, PutText: what they lay behind bytes.
-/
import Derived.Test.YtmacgmmjgdmleaaProg
import Derived.Test.YtmacgmmjgdmleaaBase
import Derived.Test.YtmacgmmjgdmleaaNum
namespace Go.Proofs.Ytmacgmmjgdmleaa
open Go Go.RowKit
set_option linter.unusedSimpArgs false
set_option linter.unusedVariables false

theorem byT : SlT Try.prog 166 5 (.int .u8 0) 1 1 := ⟨Try.underlying166, by kernel_rfl, rfl, by decide⟩
theorem u8T : Try.prog.underlying 5 = some (.int .u8) := Try.underlying5
theorem strT : Try.prog.underlying 9 = some .string := Try.underlying9

set_option maxRecDepth 100000 in
set_option maxHeartbeats 400000 in
theorem size_neg (n : Int) (w : World) (hn : n < 0) :
    Calls Try.prog 161 #[.int .i64 n] w fun e w' => e = .returned (.int .i64 0) ∧ w = w' := by
  go_enter Try.func161, Try.ntmps161
  go_wp2
  go_ret
  exact ⟨rfl, rfl⟩
set_option maxRecDepth 100000 in
set_option maxHeartbeats 400000 in
theorem size_nat (n : Nat) (w : World) (hn : n ≤ 9223372036854775807) :
    Calls Try.prog 161 #[.int .i64 n] w fun e w' => e = .returned (.int .i64 (Num.nd n + 1 : Nat)) ∧ w = w' := by
  have h8 := Num.nd_eight hn
  go_enter Try.func161, Try.ntmps161
  go_wp2
  go_loop [0, 3] (fun x k => ∃ m j : Nat, m ≤ n ∧ x = .int .i64 m ∧ k = .int .i64 j ∧ j + Num.nd m = Num.nd n + 1) (fun x _ => (intOf x).toNat)
  case atStart => exact ⟨n, 1, Nat.le_refl _, rfl, rfl, Nat.add_comm _ _⟩
  case round =>
    obtain ⟨m, j, hm, rfl, rfl, hj⟩ := hrel
    by_cases h0 : 0 < m
    · have h1 := Num.nd_pos h0
      have hj2 : j + 1 + Num.nd (m / 256) = Num.nd n + 1 := by omega
      have hjl : j ≤ 9 := by omega
      have hj := Lib.hid hj2
      clear hj2 h1
      go_wp2
      go_round
      case rel => exact ⟨m / 256, j + 1, by omega, by go_num, by go_num, hj.out⟩
      case measure => simp [intOf]; omega
    · obtain rfl : m = 0 := by omega
      rw [Num.nd_zero] at hj
      obtain rfl : j = Num.nd n + 1 := by omega
      go_wp2
      go_ret
      exact ⟨rfl, rfl⟩

/-- The call hands back a new row of its own with these bytes; nothing that was there has turned. -/
def RetB (w : World) (l : List UInt8) (e : Ending) (w' : World) : Prop := ∃ v, e = .returned v ∧ Own w' w.heap.size 5 1 v l.length (bv l) ∧ Same w w'
/-- It hands back a slice that reads as these bytes. -/
def RetS (w : World) (l : List UInt8) (e : Ending) (w' : World) : Prop := ∃ ao c, e = .returned (.slice ao l.length c) ∧ Sl w' 1 ao l.length c (bv l) ∧ Same w w'
theorem RetB.s {w : World} {l : List UInt8} {e : Ending} {w' : World} (h : RetB w l e w') : RetS w l e w' := by
  obtain ⟨v, rfl, ho, hs⟩ := h
  obtain ⟨ao, c, rfl, hsl⟩ := ho.sl
  exact ⟨ao, c, rfl, hsl, hs⟩
theorem byte_low {k : Nat} (h : k < 256) : ([Value.int .u8 (k : Int)] : List Value) = bv [UInt8.ofNat k] := by
  simp [bv, Nat.mod_eq_of_lt h]
theorem byte_mod (n k : Nat) : ([Value.int .u8 ((n : Int) / 2 ^ (8 * k) % 256)] : List Value) = bv [UInt8.ofNat (n / 256 ^ k)] := by
  have e : ((256 ^ k : Nat) : Int) = 2 ^ (8 * k) := by
    rw [show (256 : Nat) = 2 ^ 8 from rfl, ← Nat.pow_mul]
    simp
  simp [bv, ← e]
/-- What Put has laid behind j digits. -/
def putPart (xs : List UInt8) (k n j : Nat) : List UInt8 := xs ++ [UInt8.ofNat k] ++ (Num.beN k n).take j
theorem putPart_zero (xs : List UInt8) (k n : Nat) : putPart xs k n 0 = xs ++ [UInt8.ofNat k] := by simp [putPart]
theorem putPart_succ (xs : List UInt8) {k n j : Nat} (h : j < k) : bv (putPart xs k n j) ++ [.int .u8 ((n : Int) / 2 ^ (8 * (k - 1 - j)) % 256)] = bv (putPart xs k n (j + 1)) := by
  rw [byte_mod, ← bv_append, putPart, putPart, Num.beN_take k n j h]
  simp
theorem putPart_all (xs : List UInt8) (n : Nat) : putPart xs (Num.nd n) n (Num.nd n) = xs ++ Num.putN n := by
  rw [putPart, List.take_of_length_le (by rw [Num.beN_length]; exact Nat.le_refl _), Num.putN]
  simp
set_option maxRecDepth 100000 in
set_option maxHeartbeats 400000 in
theorem put_neg (ao : Option Addr) (len cap : Nat) (n : Int) (w : World) (hn : n < 0) (hl : len ≤ cap) :
    Calls Try.prog 112 #[.slice ao len cap, .int .i64 n] w fun e w' => e = .returned (.slice ao len len) ∧ w = w' := by
  go_enter Try.func112, Try.ntmps112
  go_wp2
  go_ret
  exact ⟨rfl, rfl⟩
set_option maxRecDepth 100000 in
set_option maxHeartbeats 400000 in
theorem put_nat (ao : Option Addr) (len cap : Nat) (xs : List UInt8) (n : Nat) (w : World) (hsl : Sl w 1 ao len cap (bv xs)) (hmax : len ≤ 140737488000000) (hn : n ≤ 9223372036854775807) :
    Calls Try.prog 112 #[.slice ao len cap, .int .i64 n] w (RetB w (xs ++ Num.putN n)) := by
  have h8 := Num.nd_eight hn
  have hl := hsl.cap
  have hlen : xs.length = len := by have := hsl.len; rw [bv_length] at this; omega
  have hsl2 : Sl w 1 ao len len (bv xs) := ⟨hsl.len, Nat.le_refl _, Nat.le_trans hl hsl.most, fun h => by have := hsl.nil h; omega, hsl.cell⟩
  replace hlen := Lib.hid hlen
  obtain ⟨k, hk⟩ : ∃ k, k = Num.nd n := ⟨_, rfl⟩
  have hsz := size_nat n
  rw [← hk] at h8
  rw [← hk] at hsz
  replace hsz := Lib.hid hsz
  replace hk := Lib.hid hk
  go_enter Try.func112, Try.ntmps112
  go_wp2_with fail
  refine (hsz.out _ hn).mono ?_
  rintro e w' ⟨rfl, rfl⟩
  go_wp2_with (at_builtin; refine append_full (l := [.int .u8 (k : Int)]) rfl _ _ rfl byT hsl2 rfl rfl rfl (by decide) (by simp [Value.oneCell']) (by omega) (by omega) ?_)
  intro v' w1 hown hs
  rw [byte_low (by omega), ← bv_append, ← putPart_zero xs k n] at hown
  go_wp2
  go_loopw [0, 25] (fun v i wr => ∃ j : Nat, j ≤ k ∧ i = .int .i64 j ∧ Own wr w.heap.size 5 1 v (len + 1 + j) (bv (putPart xs k n j)) ∧ Same w wr) (fun _ i _ => k - (intOf i).toNat)
  case atStart => exact ⟨0, Nat.zero_le _, rfl, Own.lower hown (Nat.le_succ _), hs⟩
  case round =>
    obtain ⟨j, hj, rfl, hown, hb⟩ := hrel
    by_cases hlt : j < k
    · have hbs := hb.size
      go_wp2_with (at_builtin; refine append_own (l := [.int .u8 ((n : Int) / 2 ^ (8 * (k - 1 - j)) % 256)]) rfl _ _ rfl byT hown rfl rfl rfl (by simp [Value.oneCell']) hbs (by omega) (by omega) ?_)
      intro v2 w2 hown2 hk2 _
      rw [putPart_succ xs hlt] at hown2
      go_wp2
      go_roundw
      case rel => exact ⟨j + 1, by omega, by go_num, hown2, hb.keep hk2 (fun x hx hv => by have := hown.base x hv; omega)⟩
      case measure => simp [intOf]; omega
    · obtain rfl : j = k := by omega
      go_wp2
      go_ret
      refine ⟨_, rfl, ?_, hb⟩
      have hk := hk.out
      subst hk
      rw [← putPart_all]
      have e2 : (putPart xs (Num.nd n) n (Num.nd n)).length = len + 1 + Num.nd n := by
        rw [putPart_all, List.length_append, Num.putN_length, hlen.out]
        omega
      rw [e2]
      exact hown
/-- Whatever the number. -/
theorem put_any (ao : Option Addr) (len cap : Nat) (xs : List UInt8) (n : Int) (w : World) (hsl : Sl w 1 ao len cap (bv xs)) (hmax : len ≤ 140737488000000) (hn : n ≤ 9223372036854775807) :
    Calls Try.prog 112 #[.slice ao len cap, .int .i64 n] w (RetS w (xs ++ Num.putI n)) := by
  rcases Int.lt_or_le n 0 with h | h
  · refine (put_neg ao len cap n w h hsl.cap).mono ?_
    rintro e w' ⟨rfl, rfl⟩
    have hlen : xs.length = len := by have := hsl.len; rw [bv_length] at this; omega
    rw [Num.putI_neg h, List.append_nil]
    subst hlen
    exact ⟨ao, _, rfl, ⟨hsl.len, Nat.le_refl _, Nat.le_trans hsl.cap hsl.most, fun h => by have := hsl.nil h; have := hsl.cap; omega, hsl.cell⟩, Same.refl⟩
  · obtain ⟨m, rfl⟩ := Int.eq_ofNat_of_zero_le h
    rw [Num.putI_nat]
    exact (put_nat ao len cap xs m w hsl hmax (by omega)).mono fun _ _ h => h.s
set_option maxRecDepth 100000 in
set_option maxHeartbeats 400000 in
theorem putText_any (ao : Option Addr) (len cap : Nat) (xs : List UInt8) (s : ByteArray) (w : World) (hsl : Sl w 1 ao len cap (bv xs)) (hmax : len ≤ 40737488000000) (hs : s.size ≤ 40737488000000) :
    Calls Try.prog 196 #[.slice ao len cap, .string s] w (RetB w (xs ++ Num.putT s.data.toList)) := by
  have hlen : xs.length = len := by have := hsl.len; rw [bv_length] at this; omega
  replace hlen := Lib.hid hlen
  have hput := put_nat ao len cap xs s.size w hsl (by omega) (by omega)
  replace hput := Lib.hid hput
  have h9 := Num.putN_le (n := s.size) (by omega)
  go_enter Try.func196, Try.ntmps196
  go_wp2_with fail
  refine hput.out.mono ?_
  rintro e w1 ⟨v, rfl, ho, hk⟩
  have hks := hk.size
  have hl1 : (xs ++ Num.putN s.size).length + s.size ≤ 140737488355328 := by rw [List.length_append, hlen.out]; omega
  go_wp2_with (at_builtin; refine append_str rfl _ _ rfl byT strT ho rfl rfl hks hl1 ?_)
  intro v' w2 ho2 hk2
  rw [← bv_append] at ho2
  go_wp2
  go_ret
  refine ⟨_, rfl, ?_, hk.keep hk2 (fun x hx hv => by have := ho.base x hv; omega)⟩
  have e : xs ++ Num.putT s.data.toList = xs ++ Num.putN s.size ++ s.data.toList := by
    rw [Num.putT, List.append_assoc]
    rfl
  have e2 : (xs ++ Num.putN s.size ++ s.data.toList).length = xs.length + (Num.putN s.size).length + s.size := by
    rw [List.length_append, List.length_append]
    rfl
  rw [e, e2]
  exact ho2
end Go.Proofs.Ytmacgmmjgdmleaa
