/-
  The walk of the law WindowOrder: in whatever order numbers are marked, each once, the window is the same, if none is refused.
-/
-- @law rep win, ints, int
import Derived.Test.YtkhloanpdehegaaDoorWinO
import Derived.Test.YtkhloanpdehegaaDoorWinD
namespace Go.Proofs.YtkhloanpdehegaaDoor
open Go Go.RowKit
set_option linter.unusedSimpArgs false
set_option linter.unusedVariables false

theorem i64_le {n : Int} (h : (Lit.int .i64 n).wf = true) : -9223372036854775808 ≤ n ∧ n ≤ 9223372036854775807 := by
  simp [Lit.wf, IntKind.min, IntKind.max, IntKind.signed, IntKind.bits] at h
  omega
theorem i64_wf {n : Int} (h : -9223372036854775808 ≤ n ∧ n ≤ 9223372036854775807) : (Lit.int .i64 n).wf = true := by
  simp [Lit.wf, IntKind.min, IntKind.max, IntKind.signed, IntKind.bits]
  omega
theorem u64_wf {n : Nat} (h : n < 18446744073709551616) : (Lit.int .u64 (n : Int)).wf = true := by
  simp [Lit.wf, IntKind.min, IntKind.max, IntKind.signed, IntKind.bits]
  omega
theorem all_wf (l : List Int) : ∀ v : Win, v.ok → (Lit.int .i64 v.base).wf = true → (v.all l).1.ok ∧ (Lit.int .i64 (v.all l).1.base).wf = true := by
  induction l with
  | nil => intro v h1 h2; exact ⟨h1, h2⟩
  | cons x l ih =>
    intro v h1 h2
    unfold Win.all
    by_cases ha : v.ask 64 x = 0
    · rw [if_pos ha]
      obtain ⟨a, b, _⟩ := v.next_spec h1 x ha
      exact ih _ a (i64_wf (by have := b.1; have := b.2.1; omega))
    · rw [if_neg ha]
      exact ⟨h1, h2⟩
/-- The numbers from the last one down, turned. -/
def turned (l : List Int) (k j : Nat) : List Int := (List.range j).map fun t => l.getD ((l.length - 1 - t + k) % l.length) 0
theorem turned_succ (l : List Int) (k j : Nat) : turned l k (j + 1) = turned l k j ++ [l.getD ((l.length - 1 - j + k) % l.length) 0] := by simp [turned, List.range_succ]
theorem turned_length (l : List Int) (k j : Nat) : (turned l k j).length = j := by simp [turned]
theorem getD_mem (l : List Int) (i : Nat) (h : i < l.length) : l.getD i 0 ∈ l := by
  simp only [List.getD, List.getElem?_eq_getElem h, Option.getD_some]
  exact List.getElem_mem _
theorem turned_mem (l : List Int) (k : Nat) (x : Int) : x ∈ turned l k l.length ↔ x ∈ l := by
  constructor
  · intro h
    obtain ⟨t, ht, rfl⟩ := List.mem_map.1 h
    have := List.mem_range.1 ht
    exact getD_mem _ _ (Nat.mod_lt _ (by omega))
  · intro h
    obtain ⟨i, hi, rfl⟩ := List.mem_iff_getElem.1 h
    obtain ⟨n, hn⟩ : ∃ n, n = l.length := ⟨_, rfl⟩
    have hn0 : 0 < n := by omega
    -- t with (n - 1 - t + k) % n = i
    obtain ⟨s, hs⟩ : ∃ s, s = (i + (n - k % n)) % n := ⟨_, rfl⟩
    have hsl : s < n := by rw [hs]; exact Nat.mod_lt _ hn0
    have hkm := Nat.mod_lt k hn0
    have key : (s + k) % n = i := by
      rw [hs, Nat.mod_add_mod, Nat.add_assoc, Nat.add_mod, show (n - k % n + k) % n = 0 by
        have e : n - k % n + k = n + n * (k / n) := by have := Nat.div_add_mod k n; omega
        rw [e]
        simp]
      rw [Nat.add_zero, Nat.mod_mod]
      exact Nat.mod_eq_of_lt (by omega)
    refine List.mem_map.2 ⟨n - 1 - s, List.mem_range.2 (by omega), ?_⟩
    rw [← hn, show n - 1 - (n - 1 - s) = s by omega, key]
    simp [List.getD, hi]
theorem turned_all (v : Win) (hv : v.ok) (l : List Int) (k : Nat) (h1 : (v.all l).2 = true) (h2 : (v.all (turned l k l.length)).2 = true) : (v.all l).1 = (v.all (turned l k l.length)).1 :=
  Win.all_order v hv l _ (fun x => (turned_mem l k x).symm) h1 h2
set_option maxRecDepth 100000 in
set_option maxHeartbeats 6400000 in
theorem walk_WindowOrder (w : World) (a : Win) (ha : (Lit.int .i64 a.base).wf = true ∧ a.bits < 18446744073709551616) (ao : Option Addr) (n cap : Nat) (l : List Int) (hsl : Sl w 1 ao n cap (iv l)) (hy : ∀ x ∈ l, (Lit.int .i64 x).wf = true) (tn : Int) (htn : (Lit.int .i64 tn).wf = true) (hT : Tab w) :
    Calls Tryd.prog 6 #[.agg #[.int .i64 a.base, .int .u64 (a.bits : Nat)], .slice ao n cap, .int .i64 tn] w fun e w' => e = .returned (.bool true) ∧ Same w w' := by
  obtain ⟨b, m⟩ := a
  obtain ⟨hbw, hm⟩ := ha
  simp only at hm hbw ⊢
  clear htn
  have hll : l.length = n := by have := hsl.len; rw [iv_length] at this; omega
  have hcap := hsl.cap
  have hy2 : ∀ x ∈ l, x ≤ 9223372036854775807 := fun x hx => (i64_le (hy x hx)).2
  clear hy
  have hl := Lib.hid (fun w h => lives9 w h)
  have hinf := Lib.hid hinfW
  have hgd := Lib.hid win_guard
  replace hT := Lib.hid hT
  by_cases hbig : 200 < n
  · have d1 : Decidable.decide (200 < (n : Int)) = true := decide_eq_true (by omega)
    clear hy2
    replace hsl := Lib.hid hsl
    go_enter Tryd.func6, Tryd.ntmps6
    go_upto_region 1 with fail
    obtain ⟨w0, hw0⟩ : ∃ x, x = w.alloc (.cells #[.int .i64 b, .int .u64 m] 38) := ⟨_, rfl⟩
    have s0 : Same w w0 := by rw [hw0]; exact Same.refl.alloc _
    rw [← hw0]
    clear hw0
    replace s0 := Lib.hid s0
    go_wp2_with fail
    refine (hl.out _ (hT.out.same s0.out)).mono ?_
    rintro e w6 ⟨rfl, hs6⟩
    replace s0 := Lib.hid (s0.out.trans hs6)
    clear hs6
    go_wp2
    go_ret
    exact ⟨rfl, s0.out⟩
  · have d1 : Decidable.decide (200 < (n : Int)) = false := decide_eq_false (by omega)
    have hmark1 := fun w h1 h2 => marked_any b m ao n cap l w hm h1 hy2 h2
    have hw1 := all_wf l ⟨b, m⟩ hm hbw
    obtain ⟨xb, hxb⟩ : ∃ y, y = (Win.all ⟨b, m⟩ l).1.base := ⟨_, rfl⟩
    obtain ⟨xm, hxm⟩ : ∃ y, y = (Win.all ⟨b, m⟩ l).1.bits := ⟨_, rfl⟩
    obtain ⟨A, hA⟩ : ∃ y, y = (Win.all ⟨b, m⟩ l).2 := ⟨_, rfl⟩
    rw [← hxb, ← hxm, ← hA] at hmark1
    replace hmark1 := Lib.hid hmark1
    replace hxb := Lib.hid hxb
    replace hxm := Lib.hid hxm
    replace hA := Lib.hid hA
    have hall := fun k => turned_all ⟨b, m⟩ hm l k
    have hq : ∀ w : World, (binOp .eql 38 (.agg #[.int .i64 xb, .int .u64 (xm : Nat)]) (.agg #[.int .i64 xb, .int .u64 (xm : Nat)])).run Tryd.prog w = .ok (.bool true) w := by
      intro w
      have h1 := hw1.2
      rw [← hxb.out] at h1
      have h2 := u64_wf hw1.1
      rw [← hxm.out] at h2
      have := win_eql xb xb xm xm h1 h2 h1 h2 w
      rw [decide_eq_true (And.intro rfl rfl)] at this
      exact this
    replace hq := Lib.hid hq
    replace hall := Lib.hid hall
    clear hw1 hbw
    replace hsl := Lib.hid hsl
    go_enter Tryd.func6, Tryd.ntmps6
    go_upto_region 1 with fail
    have r0 := heap_alloc_new w (.cells #[.int .i64 b, .int .u64 m] 38)
    obtain ⟨w0, hw0⟩ : ∃ x, x = w.alloc (.cells #[.int .i64 b, .int .u64 m] 38) := ⟨_, rfl⟩
    have s0 : Same w w0 := by rw [hw0]; exact Same.refl.alloc _
    rw [← hw0] at r0 ⊢
    clear hw0
    replace r0 := Lib.hid r0
    replace s0 := Lib.hid s0
    go_wp2_with (refine load_row rfl _ _ rfl w.heap.size rfl _ _ _ _ r0.out Tryd.underlying38 rfl hinf.out ?_)
    refine (hmark1.out _ (hsl.out.same s0.out) (hT.out.same s0.out)).mono ?_
    rintro e w1 ⟨rfl, hs⟩
    replace r0 := Lib.hid (hs.row r0.out)
    replace s0 := Lib.hid (s0.out.trans hs)
    clear hs hmark1
    go_upto_region 4 with fail
    have r1 := heap_alloc_new w1 (.cells #[.int .i64 xb, .int .u64 xm] 38)
    obtain ⟨w2, hw2⟩ : ∃ x, x = w1.alloc (.cells #[.int .i64 xb, .int .u64 xm] 38) := ⟨_, rfl⟩
    have s2 : Same w1 w2 := by rw [hw2]; exact Same.refl.alloc _
    rw [← hw2] at r1 ⊢
    clear hw2
    replace r0 := Lib.hid (s2.row r0.out)
    replace s0 := Lib.hid (s0.out.trans s2)
    replace r1 := Lib.hid r1
    clear s2
    have hkk : ∃ kk : Nat, (n = 0 ∧ kk = 0) ∨ (0 < n ∧ kk < n ∧ wrap64 ((IntKind.u64.wrap tn).tmod (n : Int)) = (kk : Int)) := by
      by_cases h0 : n = 0
      · exact ⟨0, .inl ⟨h0, rfl⟩⟩
      · obtain ⟨kk, h1, h2⟩ := uint_rem tn n (by omega) (by omega)
        exact ⟨kk, .inr ⟨by omega, h1, h2⟩⟩
    obtain ⟨kk, hkk⟩ := hkk
    have hkn : kk ≤ 200 := by omega
    replace hkk := Lib.hid hkk
    go_upto_if 26 with fail
    go_cut [9] (fun v wy => v = .int .i64 kk ∧ Same w2 wy)
    case first =>
      rcases hkk.out with ⟨h1, h2⟩ | ⟨h1, h2, h3⟩
      · have hcf : Decidable.decide (0 < n) = false := decide_eq_false (by omega)
        rw [hcf]
        go_wp2
        go_meet
        exact ⟨by rw [h2]; rfl, Same.refl⟩
      · have hcf : Decidable.decide (0 < n) = true := decide_eq_true h1
        rw [hcf]
        have hz : ((n : Int) == 0) = false := by simp; omega
        go_wp2
        go_meet
        exact ⟨by rw [h3], Same.refl⟩
    case rest =>
      obtain ⟨rfl, hsy⟩ := hcut
      have hTs := turned_succ l kk
      have hTl := turned_length l kk
      rw [hll] at hTs
      have hTe := hall.out kk
      have hmem := turned_mem l kk
      rw [hll] at hTe hmem
      obtain ⟨T, hTT⟩ : ∃ T, T = turned l kk := ⟨_, rfl⟩
      rw [← hTT] at hTs hTl hTe hmem
      have hT0 : T 0 = [] := by rw [hTT]; rfl
      have hmark2 := fun ao cap w h1 h2 => marked_any b m ao n cap (T n) w hm h1 (fun x hx => hy2 x ((hmem x).1 hx)) h2
      obtain ⟨yb, hyb⟩ : ∃ y, y = (Win.all ⟨b, m⟩ (T n)).1.base := ⟨_, rfl⟩
      obtain ⟨ym, hym⟩ : ∃ y, y = (Win.all ⟨b, m⟩ (T n)).1.bits := ⟨_, rfl⟩
      obtain ⟨B, hB⟩ : ∃ y, y = (Win.all ⟨b, m⟩ (T n)).2 := ⟨_, rfl⟩
      rw [← hyb, ← hym, ← hB] at hmark2
      have hfin : A = true → B = true → xb = yb ∧ xm = ym := by
        intro h1 h2
        have := hTe (by rw [← hA.out]; exact h1) (by rw [← hB]; exact h2)
        rw [hxb.out, hxm.out, hyb, hym, this]
        exact ⟨rfl, rfl⟩
      replace hfin := Lib.hid hfin
      replace hmark2 := Lib.hid hmark2
      replace hsy := Lib.hid hsy
      clear hTT hTe hmem hall hyb hym hB hy2 hxb hxm hA hkk
      replace hTs := Lib.hid hTs
      replace hTl := Lib.hid hTl
      replace hT0 := Lib.hid hT0
      go_wp2
      go_loopw [10, 11] (fun v i wr => ∃ (j : Nat), j ≤ n ∧ i = .int .i64 ((n : Int) - 1 - (j : Int)) ∧ Own wr w2.heap.size 3 1 v j (iv (T j)) ∧ Same w2 wr) (fun _ i _ => (intOf i + 1).toNat)
      case atStart => exact ⟨0, by omega, by go_num, by rw [hT0.out]; exact World.ownsRow_nil _ _ _ _, hsy.out⟩
      case round =>
        obtain ⟨j, hj, rfl, ho, hs⟩ := hrel
        by_cases hlt : j < n
        · obtain ⟨bk, off, rfl, _, hcell⟩ := hsl.out.at (by intro h2; rw [iv, List.map_eq_nil_iff] at h2; rw [h2] at hll; simp at hll; omega)
          obtain ⟨q, hq2⟩ : ∃ q, q = (n - 1 - j + kk) % n := ⟨_, rfl⟩
          have hqn : q < n := by rw [hq2]; exact Nat.mod_lt _ (by omega)
          have hsk := hTs.out j
          rw [← hq2] at hsk
          have cc := (s0.out.trans hs).cell (hcell q _ (iv_get (by omega)))
          have hx : l[q]'(by omega) = l.getD q 0 := by simp [List.getD, show q < l.length by omega]
          rw [hx] at cc
          obtain ⟨x, hxe⟩ : ∃ x, x = l.getD q 0 := ⟨_, rfl⟩
          rw [← hxe] at cc hsk
          obtain ⟨p, hp⟩ : ∃ p : Nat, p = n - 1 - j := ⟨_, rfl⟩
          rw [← hp] at hq2
          have hpe : (n : Int) - 1 - (j : Int) = (p : Int) := by omega
          have g0 : 0 ≤ ((p : Int) + (kk : Int)) % (n : Int) := Int.emod_nonneg _ (by omega)
          have g1 : ((p : Int) + (kk : Int)) % (n : Int) < (n : Int) := Int.emod_lt_of_pos _ (by omega)
          have hz : ((n : Int) == 0) = false := by simp; omega
          have hn0 : ¬ n = 0 := by omega
          have hpn : p < n := by omega
          rw [hq2] at cc hqn
          rw [hpe]
          have hpj : (p : Int) - 1 = (n : Int) - 1 - ((j + 1 : Nat) : Int) := by omega
          have hsz1 := hs.size
          obtain ⟨o4, ho4'⟩ : ∃ o, o = iv (T j) := ⟨_, rfl⟩
          rw [← ho4'] at ho
          clear hcell hx hxe hq2 hp hpe
          replace hpj := Lib.hid hpj
          replace hsk := Lib.hid hsk
          replace ho4' := Lib.hid ho4'
          replace ho := Lib.hid ho
          replace hs := Lib.hid hs
          go_wp2_with (first | (at_builtin; refine append_own (l := [.int .i64 x]) rfl _ _ rfl isT ho.out rfl rfl rfl (by simp [Value.oneCell']) hsz1 (by omega) (by omega) ?_; intro v4 w4 ho4 hk4 hz4; clear hz4; replace ho4 := Lib.hid ho4; replace hk4 := Lib.hid hk4))
          go_roundw
          case rel => exact ⟨j + 1, by omega, by rw [← hpj.out], by rw [hsk.out, iv_append, ← ho4'.out]; exact ho4.out, hs.out.keep hk4.out (fun x hx hv => by have := ho.out.base x hv; omega)⟩
          case measure => simp [intOf] <;> omega
        · obtain rfl : j = n := by omega
          have hpe : (j : Int) - 1 - (j : Int) = -1 := by omega
          rw [hpe]
          obtain ⟨ao2, cap2, rfl, hsl2⟩ := ho.sl
          clear ho hpe hTs hT0 hTl
          replace r0 := Lib.hid (hs.row r0.out)
          replace r1 := Lib.hid (hs.row r1.out)
          replace s0 := Lib.hid (s0.out.trans hs)
          replace hsl2 := Lib.hid hsl2
          clear hs hsy
          go_wp2_with (refine load_row rfl _ _ rfl w.heap.size rfl _ _ _ _ r0.out Tryd.underlying38 rfl hinf.out ?_)
          refine (hmark2.out _ _ _ hsl2.out (hT.out.same s0.out)).mono ?_
          rintro e w5 ⟨rfl, hs⟩
          replace r1 := Lib.hid (hs.row r1.out)
          replace s0 := Lib.hid (s0.out.trans hs)
          clear hs hmark2 hsl2 r0
          go_upto_region 13 with fail
          have r2 := heap_alloc_new w5 (.cells #[.int .i64 yb, .int .u64 ym] 38)
          obtain ⟨w6, hw6⟩ : ∃ x, x = w5.alloc (.cells #[.int .i64 yb, .int .u64 ym] 38) := ⟨_, rfl⟩
          have s2 : Same w5 w6 := by rw [hw6]; exact Same.refl.alloc _
          rw [← hw6] at r2 ⊢
          clear hw6
          replace r1 := Lib.hid (s2.row r1.out)
          replace s0 := Lib.hid (s0.out.trans s2)
          replace r2 := Lib.hid r2
          clear s2
          have hlv := hl.out _ (hT.out.same s0.out)
          clear hl hT
          replace hlv := Lib.hid hlv
          cases A
          · go_wp2_with (refine hlv.out.mono ?_; clear hlv; rintro e w7 ⟨rfl, hs7⟩; replace hs7 := Lib.hid hs7)
            go_ret
            exact ⟨rfl, s0.out.trans hs7.out⟩
          · cases B
            · go_wp2_with (refine hlv.out.mono ?_; clear hlv; rintro e w7 ⟨rfl, hs7⟩; replace hs7 := Lib.hid hs7)
              go_ret
              exact ⟨rfl, s0.out.trans hs7.out⟩
            · obtain ⟨rfl, rfl⟩ := hfin.out rfl rfl
              have hq' := hq.out
              have hgd' := hgd.out
              go_wp2_with (first | (refine load_row rfl _ _ rfl w1.heap.size rfl _ _ _ _ r1.out Tryd.underlying38 rfl hinf.out ?_) | (refine load_row rfl _ _ rfl w5.heap.size rfl _ _ _ _ r2.out Tryd.underlying38 rfl hinf.out ?_) | (refine hlv.out.mono ?_; clear hlv; rintro e w7 ⟨rfl, hs7⟩; replace hs7 := Lib.hid hs7))
              go_ret
              exact ⟨rfl, s0.out.trans hs7.out⟩
end Go.Proofs.YtkhloanpdehegaaDoor
