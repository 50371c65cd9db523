/-
  tally's Reader: what each of its calls tells, and what it leaves.
-/
import Derived.Test.YtmacgmmjgdmleaaTally
namespace Go.Proofs.Ytmacgmmjgdmleaa
open Go Go.RowKit
set_option linter.unusedSimpArgs false
set_option linter.unusedVariables false

theorem i64_or_nat (a b : Nat) (ha : a < 9223372036854775808) (hb : b < 9223372036854775808) : bits .or .i64 (a : Int) (b : Int) = ((a ||| b : Nat) : Int) := by
  have hx : a ||| b < 2 ^ 63 := Nat.or_lt_two_pow (by omega) (by omega)
  show IntKind.i64.wrap ((BitVec.ofInt 64 (a : Int) ||| BitVec.ofInt 64 (b : Int)).toNat : Int) = _
  have e : ∀ n : Nat, n < 9223372036854775808 → (BitVec.ofInt 64 (n : Int)).toNat = n := by
    intro n hn
    simp
    omega
  rw [BitVec.toNat_or, e a ha, e b hb]
  exact IntWalk.i64_in _ ⟨by omega, by omega⟩
/-- One digit more. -/
theorem or_digit (l : List UInt8) (j k : Nat) (hk : l.length = k) (hj : j < k) (hk8 : k ≤ 8) (h7 : k = 8 → (l.getD 0 0).toNat ≤ 127) :
    bits .or .i64 ((Num.val (l.take j) : Int) * 256) ((l.getD j 0).toNat : Int) = (Num.val (l.take (j + 1)) : Int) ∧ Num.val (l.take j) < 36028797018963968 := by
  have h4 : Num.val (l.take j) < 36028797018963968 := by
    by_cases h : j = 7
    · subst h
      have h8 : k = 8 := by omega
      rcases l with _ | ⟨x, t⟩
      · simp at hk; omega
      · have hx : x.toNat ≤ 127 := by simpa using h7 h8
        rw [List.take_succ_cons, Num.val_cons]
        have h1 := Num.val_lt (t.take 6)
        have h2 : (t.take 6).length = 6 := by rw [List.length_take]; simp at hk; omega
        rw [h2] at h1 ⊢
        have h3 : x.toNat * 256 ^ 6 ≤ 127 * 256 ^ 6 := Nat.mul_le_mul_right _ hx
        omega
    · have h1 := Num.val_lt (l.take j)
      have h2 : (l.take j).length ≤ 6 := by rw [List.length_take]; omega
      have h3 : 256 ^ (l.take j).length ≤ 256 ^ 6 := Nat.pow_le_pow_right (by omega) h2
      omega
  have hz : (l.getD j 0).toNat < 256 := (l.getD j 0).toNat_lt
  refine ⟨?_, h4⟩
  have e0 : ((Num.val (l.take j) : Int) * 256) = ((256 * Num.val (l.take j) : Nat) : Int) := by omega
  rw [List.take_succ_eq_append_getElem (by omega), Num.val_snoc]
  have e1 : l.getD j 0 = l[j] := by simp [List.getD, hj, hk]
  rw [e0, i64_or_nat _ _ (by omega) (by omega), nat_join 8 _ _ (by omega) (by omega), e1]

set_option maxRecDepth 100000 in
set_option maxHeartbeats 400000 in
theorem number_nil (rb : Nat) (ao : Option Addr) (c : Nat) (w : World) (hc : w.cell? ⟨rb, 0, none⟩ = some (.slice ao 0 c)) :
    Calls Try.prog 153 #[.pointer (some ⟨rb, 0, none⟩)] w fun e w' => e = .returned (.tuple #[.int .i64 0, .int .i64 0, .int .i64 10]) ∧ w = w' := by
  go_enter Try.func153, Try.ntmps153
  go_wp2
  go_ret3
  exact ⟨rfl, rfl⟩
set_option maxRecDepth 100000 in
set_option maxHeartbeats 400000 in
theorem number_long (rb bk off n c : Nat) (x : Nat) (w : World) (hc : w.cell? ⟨rb, 0, none⟩ = some (.slice (some ⟨bk, off, none⟩) n c)) (hn : 0 < n) (hm : n ≤ 9223372036854775807)
    (hx : w.cell? ⟨bk, off, none⟩ = some (.int .u8 x)) (hx8 : 8 < x) (hx9 : x < 256) :
    Calls Try.prog 153 #[.pointer (some ⟨rb, 0, none⟩)] w fun e w' => e = .returned (.tuple #[.int .i64 0, .int .i64 0, .int .i64 11]) ∧ w = w' := by
  have h0 : ((n : Int) == 0) = false := by simp; omega
  go_enter Try.func153, Try.ntmps153
  go_wp2
  go_ret3
  exact ⟨rfl, rfl⟩
set_option maxRecDepth 100000 in
set_option maxHeartbeats 400000 in
theorem number_cut (rb bk off n c : Nat) (x : Nat) (w : World) (hc : w.cell? ⟨rb, 0, none⟩ = some (.slice (some ⟨bk, off, none⟩) n c)) (hn : 0 < n) (hm : n ≤ 9223372036854775807)
    (hx : w.cell? ⟨bk, off, none⟩ = some (.int .u8 x)) (hx8 : x ≤ 8) (hx9 : n ≤ x) :
    Calls Try.prog 153 #[.pointer (some ⟨rb, 0, none⟩)] w fun e w' => e = .returned (.tuple #[.int .i64 0, .int .i64 0, .int .i64 10]) ∧ w = w' := by
  have h0 : ((n : Int) == 0) = false := by simp; omega
  go_enter Try.func153, Try.ntmps153
  go_wp2
  go_ret3
  exact ⟨rfl, rfl⟩
set_option maxRecDepth 100000 in
set_option maxHeartbeats 400000 in
theorem number_zero (rb bk off n c : Nat) (x : Nat) (w : World) (hc : w.cell? ⟨rb, 0, none⟩ = some (.slice (some ⟨bk, off, none⟩) n c)) (hn : 0 < n) (hm : n ≤ 9223372036854775807)
    (hx : w.cell? ⟨bk, off, none⟩ = some (.int .u8 x)) (hx8 : x ≤ 8) (hx0 : 0 < x) (hx9 : x < n) (hy : w.cell? ⟨bk, off + 1, none⟩ = some (.int .u8 0)) :
    Calls Try.prog 153 #[.pointer (some ⟨rb, 0, none⟩)] w fun e w' => e = .returned (.tuple #[.int .i64 0, .int .i64 0, .int .i64 11]) ∧ w = w' := by
  have h0 : ((n : Int) == 0) = false := by simp; omega
  go_enter Try.func153, Try.ntmps153
  go_wp2
  go_ret3
  exact ⟨rfl, rfl⟩
set_option maxRecDepth 100000 in
set_option maxHeartbeats 400000 in
theorem number_top (rb bk off n c : Nat) (y : Nat) (w : World) (hc : w.cell? ⟨rb, 0, none⟩ = some (.slice (some ⟨bk, off, none⟩) n c)) (hn : 8 < n) (hm : n ≤ 9223372036854775807)
    (hx : w.cell? ⟨bk, off, none⟩ = some (.int .u8 8)) (hy : w.cell? ⟨bk, off + 1, none⟩ = some (.int .u8 y)) (hy1 : 127 < y) (hy2 : y < 256) :
    Calls Try.prog 153 #[.pointer (some ⟨rb, 0, none⟩)] w fun e w' => e = .returned (.tuple #[.int .i64 0, .int .i64 0, .int .i64 11]) ∧ w = w' := by
  have h0 : ((n : Int) == 0) = false := by simp; omega
  have h1 : ((y : Int) == 0) = false := by simp; omega
  go_enter Try.func153, Try.ntmps153
  go_wp2
  go_ret3
  exact ⟨rfl, rfl⟩
set_option maxRecDepth 100000 in
set_option maxHeartbeats 400000 in
theorem number_none (rb bk off n c : Nat) (w : World) (hc : w.cell? ⟨rb, 0, none⟩ = some (.slice (some ⟨bk, off, none⟩) n c)) (hn : 0 < n) (hcn : n ≤ c) (hm : n ≤ 9223372036854775807)
    (hx : w.cell? ⟨bk, off, none⟩ = some (.int .u8 0)) :
    Calls Try.prog 153 #[.pointer (some ⟨rb, 0, none⟩)] w fun e w' => e = .returned (.tuple #[.int .i64 0, .int .i64 1, .int .i64 0]) ∧ w = w' := by
  have h0 : ((n : Int) == 0) = false := by simp; omega
  go_enter Try.func153, Try.ntmps153
  go_wp2
  all_goals
    go_loop [2, 63] (fun x i => x = .int .i64 0 ∧ i = .int .i64 0) (fun _ _ => 0)
    case atStart => exact ⟨rfl, rfl⟩
    case round =>
      obtain ⟨rfl, rfl⟩ := hrel
      go_wp2
      go_ret3
      exact ⟨rfl, rfl⟩
set_option maxRecDepth 100000 in
set_option maxHeartbeats 400000 in
theorem number_some (rb bk off n c k : Nat) (l : List UInt8) (w : World) (hc : w.cell? ⟨rb, 0, none⟩ = some (.slice (some ⟨bk, off, none⟩) n c)) (hn : k < n) (hcn : n ≤ c) (hm : n ≤ 9223372036854775807)
    (hx : w.cell? ⟨bk, off, none⟩ = some (.int .u8 k)) (hk0 : 0 < k) (hk8 : k ≤ 8) (hlen : l.length = k) (hl : ∀ j, j < k → w.cell? ⟨bk, off + 1 + j, none⟩ = some (.int .u8 (l.getD j 0).toNat))
    (h1 : l.getD 0 0 ≠ 0) (h2 : k = 8 → (l.getD 0 0).toNat ≤ 127) :
    Calls Try.prog 153 #[.pointer (some ⟨rb, 0, none⟩)] w fun e w' => e = .returned (.tuple #[.int .i64 (Num.val l), .int .i64 (1 + k), .int .i64 0]) ∧ w = w' := by
  have h0 : ((n : Int) == 0) = false := by simp; omega
  obtain ⟨y, hy⟩ : ∃ y, y = (l.getD 0 0).toNat := ⟨_, rfl⟩
  have hy0 : ((y : Int) == 0) = false := by
    simp; rintro rfl; exact h1 (UInt8.toNat_inj.1 (by simpa using hy.symm))
  have hcy := hl 0 hk0
  rw [← hy, Nat.add_zero] at hcy
  have hyt : k = 8 → y ≤ 127 := fun h => by rw [hy]; exact h2 h
  have hy2 : y < 256 := by rw [hy]; exact (l.getD 0 0).toNat_lt
  have hor := fun j (hj : j < k) => or_digit l j k hlen hj hk8 h2
  replace hor := Lib.hid hor
  replace hlen := Lib.hid hlen
  replace hl := Lib.hid hl
  clear h1 h2 hy
  have key : ∀ hb : ((k : Int) == 8) = true ∧ y ≤ 127 ∨ ((k : Int) == 8) = false, Calls Try.prog 153 #[.pointer (some ⟨rb, 0, none⟩)] w fun e w' => e = .returned (.tuple #[.int .i64 (Num.val l), .int .i64 (1 + k), .int .i64 0]) ∧ w = w' := by
    intro hb
    clear hyt
    rcases hb with ⟨hb, hyt⟩ | hb
    all_goals
      go_enter Try.func153, Try.ntmps153
      go_wp2
      go_loop [2, 63] (fun x i => ∃ j : Nat, j ≤ k ∧ i = .int .i64 j ∧ x = .int .i64 (Num.val (l.take j))) (fun _ i => k - (intOf i).toNat)
      case atStart => exact ⟨0, Nat.zero_le _, rfl, rfl⟩
      case round =>
        obtain ⟨j, hj, rfl, rfl⟩ := hrel
        by_cases hlt : j < k
        · have hcj := hl.out j hlt
          obtain ⟨ho, hv⟩ := hor.out j hlt
          obtain ⟨z, hz⟩ : ∃ z, z = (l.getD j 0).toNat := ⟨_, rfl⟩
          have hz2 : z < 256 := by rw [hz]; exact (l.getD j 0).toNat_lt
          rw [← hz] at hcj ho
          clear hz
          obtain ⟨x, hx2⟩ : ∃ x, x = Num.val (l.take j) := ⟨_, rfl⟩
          rw [← hx2] at ho hv ⊢
          replace hx2 := Lib.hid hx2
          obtain ⟨x', hx3⟩ : ∃ x, x = Num.val (l.take (j + 1)) := ⟨_, rfl⟩
          rw [← hx3] at ho
          replace hx3 := Lib.hid hx3
          go_wp2
          go_round
          case rel => exact ⟨j + 1, by omega, by go_num, by rw [← hx3.out]⟩
          case measure => simp [intOf]; omega
        · obtain rfl : j = k := by omega
          go_wp2
          go_ret3
          rw [List.take_of_length_le (by rw [hlen.out]; exact Nat.le_refl _)]
          exact ⟨rfl, rfl⟩
  by_cases hk : k = 8
  · exact key (.inl ⟨by simp; omega, hyt hk⟩)
  · exact key (.inr (by simp; omega))
/-- What number tells. -/
def num3 (x : Nat × Nat × Nat) : Value := .tuple #[.int .i64 (x.1 : Int), .int .i64 (x.2.1 : Int), .int .i64 (x.2.2 : Int)]
theorem number_any (rb n c : Nat) (ao : Option Addr) (l : List UInt8) (w : World) (hc : w.cell? ⟨rb, 0, none⟩ = some (.slice ao n c)) (hsl : Sl w 1 ao n c (bv l)) :
    Calls Try.prog 153 #[.pointer (some ⟨rb, 0, none⟩)] w fun e w' => e = .returned (num3 (Num.numAt l)) ∧ w = w' := by
  have hlen : l.length = n := by have := hsl.len; rw [bv_length] at this; omega
  have hm : n ≤ 9223372036854775807 := by have := hsl.cap; have := hsl.most; unfold maxLen at this; omega
  rcases l with _ | ⟨x, t⟩
  · obtain rfl : n = 0 := by simpa using hlen.symm
    exact number_nil rb ao c w hc
  · obtain ⟨bk, off, rfl, _, hcell⟩ := hsl.at (by simp [bv])
    have hg : ∀ j, j < n → w.cell? ⟨bk, off + j, none⟩ = some (.int .u8 (((x :: t).getD j 0).toNat : Int)) := by
      intro j hj
      have hj2 : j < (x :: t).length := by omega
      rw [hcell j _ (bv_get hj2)]
      simp only [List.getD, List.getElem?_eq_getElem hj2, Option.getD_some]
    have hx : w.cell? ⟨bk, off, none⟩ = some (.int .u8 (x.toNat : Int)) := by simpa using hg 0 (by simp at hlen; omega)
    have hx256 : x.toNat < 256 := x.toNat_lt
    simp only [List.length_cons] at hlen
    have ht : ∀ j, j < t.length → w.cell? ⟨bk, off + 1 + j, none⟩ = some (.int .u8 ((t.getD j 0).toNat : Int)) := by
      intro j hj
      have := hg (j + 1) (by omega)
      rw [show off + 1 + j = off + (j + 1) from by omega]
      simpa using this
    rw [Num.numAt_cons]
    by_cases h8 : 8 < x.toNat
    · rw [if_pos h8]
      exact number_long rb bk off n c x.toNat w hc (by omega) hm hx h8 hx256
    · rw [if_neg h8]
      by_cases h9 : t.length < x.toNat
      · rw [if_pos h9]
        exact number_cut rb bk off n c x.toNat w hc (by omega) hm hx (by omega) (by omega)
      · rw [if_neg h9]
        by_cases h10 : (0 < x.toNat ∧ t.getD 0 0 = 0) ∨ (x.toNat = 8 ∧ 127 < (t.getD 0 0).toNat)
        · rw [if_pos h10]
          by_cases h11 : 0 < x.toNat ∧ t.getD 0 0 = 0
          · have h12 := ht 0 (by omega)
            rw [h11.2] at h12
            exact number_zero rb bk off n c x.toNat w hc (by omega) hm hx (by omega) h11.1 (by omega) h12
          · have h12 := h10.resolve_left h11
            rw [h12.1] at hx
            exact number_top rb bk off n c _ w hc (by omega) hm hx (ht 0 (by omega)) h12.2 (t.getD 0 0).toNat_lt
        · rw [if_neg h10]
          by_cases h0 : x.toNat = 0
          · rw [h0] at hx ⊢
            exact number_none rb bk off n c w hc (by omega) hsl.cap hm hx
          · have hk : (t.take x.toNat).length = x.toNat := by rw [List.length_take]; omega
            have hd : ∀ j, j < x.toNat → (t.take x.toNat).getD j 0 = t.getD j 0 := by
              intro j hj
              simp only [List.getD, List.getElem?_take, if_pos hj]
            refine (number_some rb bk off n c x.toNat (t.take x.toNat) w hc (by omega) hsl.cap hm hx (by omega) (by omega) hk (fun j hj => by rw [hd j hj]; exact ht j (by omega)) ?_ ?_).mono ?_
            · rw [hd 0 (by omega)]
              exact fun h => h10 (.inl ⟨by omega, h⟩)
            · intro h
              rw [hd 0 (by omega)]
              rcases Nat.lt_or_ge 127 (t.getD 0 0).toNat with h' | h'
              · exact absurd (.inr ⟨h, h'⟩) h10
              · exact h'
            · rintro e w' ⟨rfl, rfl⟩
              exact ⟨rfl, rfl⟩

/-- A reader at block rb, its bytes in block db: what is left, and its error. -/
def Rdr (w : World) (rb db : Nat) (s : List UInt8 × Nat) : Prop :=
  ∃ ao n c, w.heap[rb]? = some (.cells #[.slice ao n c, .int .i64 (s.2 : Int), .bool true] 223 (0, 0)) ∧ Sl w 1 ao n c (bv s.1) ∧ (∀ b, ao = some b → b.block = db) ∧ s.2 ≤ 1000 ∧ db ≠ rb ∧ db < w.heap.size
theorem Rdr.keep {w w' : World} {rb db : Nat} {s : List UInt8 × Nat} {p : Nat → Prop} (h : Rdr w rb db s) (k : Keep p w w') (hr : ¬ p rb) (hp : ¬ p db) : Rdr w' rb db s := by
  obtain ⟨ao, n, c, hb, hsl, hne, he, hd, hlt⟩ := h
  exact ⟨ao, n, c, (k.block rb (blk_lt hb) hr).trans hb, hsl.keep k (fun b hb' _ => by rw [hne b hb']; exact hp), hne, he, hd, Nat.lt_of_lt_of_le hlt k.size⟩
theorem Rdr.same {w w' : World} {rb db : Nat} {s : List UInt8 × Nat} (h : Rdr w rb db s) (k : Same w w') : Rdr w' rb db s := h.keep (Keep.of_same (p := fun _ => False) k) id id
theorem Rdr.lt {w : World} {rb db : Nat} {s : List UInt8 × Nat} (h : Rdr w rb db s) : rb < w.heap.size ∧ db < w.heap.size ∧ db ≠ rb := by
  obtain ⟨ao, n, c, hb, hsl, hne, he, hd, hlt⟩ := h
  exact ⟨blk_lt hb, hlt, hd⟩

set_option maxRecDepth 100000 in
set_option maxHeartbeats 400000 in
theorem fail_any (rb db : Nat) (s : List UInt8 × Nat) (e : Nat) (w : World) (h : Rdr w rb db s) (he : e ≤ 1000) :
    Calls Try.prog 154 #[.pointer (some ⟨rb, 0, none⟩), .int .i64 e] w fun en w' => en = .returned (.tuple #[]) ∧ Rdr w' rb db ([], e) ∧ Keep (· = rb) w w' := by
  obtain ⟨ao, n, c, hb, hsl, hne, he2, hdb, hdlt⟩ := h
  have c0 := blk_cell hb 0
  have c1 := blk_cell hb 1
  have f0 := blk_frozen hb 0
  have f1 := blk_frozen hb 1
  simp at c0 c1
  replace hb := Lib.hid hb
  go_enter Try.func154, Try.ntmps154
  go_wp2
  go_end0
  refine ⟨rfl, ⟨none, 0, 0, ?_, Sl.none _ 1, by simp, he, hdb, by simpa [World.setCell] using hdlt⟩, Keep.trans (p := (· = rb)) (q := (· = rb)) (Keep.setCell _ rfl) (Keep.setCell _ rfl) (fun _ _ h => h)⟩
  rw [blk_set (blk_set hb.out)]
  rfl
set_option maxRecDepth 100000 in
set_option maxHeartbeats 400000 in
theorem take_any (rb db : Nat) (s : List UInt8 × Nat) (k : Nat) (w : World) (h : Rdr w rb db s) (hk : k ≤ s.1.length) :
    Calls Try.prog 155 #[.pointer (some ⟨rb, 0, none⟩), .int .i64 k] w fun en w' => ∃ ao c, en = .returned (.slice ao k c) ∧ Sl w' 1 ao k c (bv (s.1.take k)) ∧ (∀ b, ao = some b → b.block = db) ∧ Rdr w' rb db (s.1.drop k, s.2) ∧ Keep (· = rb) w w' := by
  obtain ⟨ao, n, c, hb, hsl, hne, he2, hdb, hdlt⟩ := h
  have hlen : s.1.length = n := by have := hsl.len; rw [bv_length] at this; omega
  have hcap := hsl.cap
  have hmost := hsl.most
  unfold maxLen at hmost
  rw [hlen] at hk
  have c0 := blk_cell hb 0
  have f0 := blk_frozen hb 0
  simp at c0
  have keep : ∀ v, Keep (· = rb) w (w.setCell ⟨rb, 0, none⟩ v) := fun v => Keep.setCell _ rfl
  rcases ao with _ | ⟨bk, off, spot⟩
  · have h0 := hsl.nil rfl
    subst h0
    obtain rfl : n = 0 := by omega
    obtain rfl : k = 0 := by omega
    have hnil : s.1 = [] := List.eq_nil_of_length_eq_zero hlen
    replace hb := Lib.hid hb
    replace hlen := Lib.hid hlen
    replace hnil := Lib.hid hnil
    clear hsl hne
    go_enter Try.func155, Try.ntmps155
    go_wp2
    go_ret
    refine ⟨none, 0, rfl, by rw [hnil.out]; exact Sl.none _ 1, (fun b hb => by cases hb), ⟨none, 0, 0, ?_, by rw [hnil.out]; exact Sl.none _ 1, (fun b hb => by cases hb), he2, hdb, by simpa [World.setCell] using hdlt⟩, keep _⟩
    rw [blk_set hb.out]
    rfl
  · have hs1 : ∀ w', Keep (· = rb) w w' → Sl w' 1 (some ⟨bk, off, spot⟩) n c (bv s.1) := by
      intro w' hk'
      refine hsl.keep hk' ?_
      intro b hb' hx
      rw [hne b hb']
      exact hdb
    have hne2 := hne
    replace hb := Lib.hid hb
    replace hlen := Lib.hid hlen
    replace hs1 := Lib.hid hs1
    clear hsl hne
    go_enter Try.func155, Try.ntmps155
    go_wp2
    · go_ret
      have hn : n = k := by omega
      have hck : c = k := by assumption
      have e1 := (hs1.out _ (keep (.slice (some ⟨bk, off, spot⟩) (n - k) 0))).take hk
      rw [Nat.mul_one, bv_take, hck] at e1
      refine ⟨some ⟨bk, off, spot⟩, k, rfl, e1, hne2, ⟨some ⟨bk, off, spot⟩, n - k, 0, ?_, ?_, hne2, he2, hdb, by simpa [World.setCell] using hdlt⟩, keep _⟩
      · rw [blk_set hb.out]
        rfl
      · have hd : s.1.drop k = [] := List.drop_of_length_le (by rw [hlen.out]; omega)
        rw [hd, show n - k = 0 from by omega]
        exact ⟨by simp [bv], Nat.le_refl _, Nat.zero_le _, (fun _ => rfl), fun b _ j u hu => by simp [bv] at hu⟩
    · go_ret
      have e1 := (hs1.out _ (keep (.slice (some ((⟨bk, off, spot⟩ : Addr).add k)) (n - k) (c - k)))).take hk
      have e2 := (hs1.out _ (keep (.slice (some ((⟨bk, off, spot⟩ : Addr).add k)) (n - k) (c - k)))).drop hk
      rw [Nat.mul_one, bv_take] at e1
      rw [Nat.mul_one, bv_drop] at e2
      refine ⟨some ⟨bk, off, spot⟩, c, rfl, e1, hne2, ⟨_, n - k, c - k, ?_, e2, ?_, he2, hdb, by simpa [World.setCell] using hdlt⟩, keep _⟩
      · rw [blk_set hb.out]
        rfl
      · intro b hb'
        injection hb' with hb'
        subst hb'
        have := hne2 _ rfl
        unfold Addr.add
        split <;> exact this
set_option maxRecDepth 100000 in
set_option maxHeartbeats 400000 in
theorem left_any (rb db : Nat) (s : List UInt8 × Nat) (w : World) (h : Rdr w rb db s) :
    Calls Try.prog 156 #[.pointer (some ⟨rb, 0, none⟩)] w fun en w' => en = .returned (.int .i64 s.1.length) ∧ w = w' := by
  obtain ⟨ao, n, c, hb, hsl, hne, he2, hdb, hdlt⟩ := h
  have hlen : s.1.length = n := by have := hsl.len; rw [bv_length] at this; omega
  have c0 := blk_cell hb 0
  simp at c0
  rw [hlen]
  clear hlen hb
  go_enter Try.func156, Try.ntmps156
  go_wp2
  go_ret
  exact ⟨rfl, rfl⟩
set_option maxRecDepth 100000 in
set_option maxHeartbeats 400000 in
theorem stopped_any (rb db : Nat) (s : List UInt8 × Nat) (w : World) (h : Rdr w rb db s) :
    Calls Try.prog 152 #[.pointer (some ⟨rb, 0, none⟩)] w fun en w' => en = .returned (.bool (decide (s.2 ≠ 0))) ∧ w = w' := by
  obtain ⟨ao, n, c, hb, hsl, hne, he2, hdb, hdlt⟩ := h
  have c1 := blk_cell hb 1
  have c2 := blk_cell hb 2
  simp at c1 c2
  clear hb
  have hd : (((s.2 : Nat) : Int) != 0) = decide (s.2 ≠ 0) := by
    by_cases h : s.2 = 0 <;> simp [h]
  replace hd := Lib.hid hd
  go_enter Try.func152, Try.ntmps152
  go_wp2
  go_ret
  rw [← hd.out]
  exact ⟨rfl, rfl⟩
set_option maxRecDepth 100000 in
set_option maxHeartbeats 400000 in
theorem stopped_nil (w : World) : Calls Try.prog 152 #[.pointer none] w fun en w' => en = .returned (.bool true) ∧ w = w' := by
  go_enter Try.func152, Try.ntmps152
  go_wp2
  go_ret
  exact ⟨rfl, rfl⟩
set_option maxRecDepth 100000 in
set_option maxHeartbeats 400000 in
theorem err_any (rb db : Nat) (s : List UInt8 × Nat) (w : World) (h : Rdr w rb db s) :
    Calls Try.prog 101 #[.pointer (some ⟨rb, 0, none⟩)] w fun en w' => en = .returned (.int .i64 s.2) ∧ w = w' := by
  obtain ⟨ao, n, c, hb, hsl, hne, he2, hdb, hdlt⟩ := h
  have c1 := blk_cell hb 1
  have c2 := blk_cell hb 2
  simp at c1 c2
  clear hb
  go_enter Try.func101, Try.ntmps101
  go_wp2
  go_ret
  exact ⟨rfl, rfl⟩
end Go.Proofs.Ytmacgmmjgdmleaa
