/-
  How much parts come to (raddlelaw03.light).
-/
import Derived.Test.YteokeidclgfgnaaShaRef3
import Derived.Test.YteokeidclgfgnaaAdd
namespace Go.Proofs.Yteokeidclgfgnaa
open Go Go.RowKit
set_option linter.unusedSimpArgs false
set_option linter.unusedVariables false

def totB (bs : List (List UInt8)) (k : Nat) : Nat := ((bs.take k).map fun s => 1 + s.length).sum
theorem totB_succ {bs : List (List UInt8)} {k : Nat} (h : k < bs.length) : totB bs (k + 1) = totB bs k + (1 + (bs.getD k []).length) := by
  unfold totB
  rw [List.take_succ_eq_append_getElem h, List.map_append, List.sum_append]
  simp only [List.map_cons, List.map_nil, List.sum_cons, List.sum_nil, Nat.add_zero, List.getD, List.getElem?_eq_getElem h, Option.getD_some]
theorem totB_mono (bs : List (List UInt8)) (k : Nat) (hk : k ≤ bs.length) : totB bs k ≤ totB bs bs.length := by
  have e : ∀ d, k + d ≤ bs.length → totB bs k ≤ totB bs (k + d) := by
    intro d
    induction d with
    | zero => intro _; exact Nat.le_refl _
    | succ d ih =>
      intro hd
      have h1 := totB_succ (bs := bs) (k := k + d) (by omega)
      rw [← Nat.add_assoc, h1]
      exact Nat.le_trans (ih (by omega)) (Nat.le_add_right _ _)
  have := e (bs.length - k) (by omega)
  rwa [Nat.add_sub_cancel' hk] at this
theorem totB_flat (bs : List (List UInt8)) : ∀ k, k ≤ bs.length → (bs.take k).flatten.length + k ≤ totB bs k := by
  intro k
  induction k with
  | zero => intro _; simp [totB]
  | succ k ih =>
    intro hk
    have h1 := ih (by omega)
    rw [totB_succ (by omega), take_flat (by omega), List.length_append]
    omega
def LightB (bs : List (List UInt8)) : Bool := decide (totB bs bs.length ≤ 5000)
set_option maxRecDepth 100000 in
set_option maxHeartbeats 1000000 in
theorem light3_any (po : Option Addr) (pn pc : Nat) (vs : List Value) (bs : List (List UInt8)) (w : World) (hsl : Sl w 1 po pn pc vs) (hp : Sls w vs bs) (hpc : pc * 24 ≤ 140737488351232) (hbl : ∀ j, (bs.getD j []).length ≤ 140737488351232) :
    Calls Try.prog 21 #[.slice po pn pc] w fun e w' => e = .returned (.bool (LightB bs)) ∧ w = w' := by
  have hlen : bs.length = pn := by have := hsl.len; have := hp.1; omega
  have hcap := hsl.cap
  have hadd := Lib.hid add_any
  replace hsl := Lib.hid hsl
  replace hp := Lib.hid hp
  replace hlen := Lib.hid hlen
  replace hbl := Lib.hid hbl
  go_enter Try.func21, Try.ntmps21
  go_wp2
  go_loop [3, 4] (fun n i => ∃ (k m : Nat), k ≤ pn ∧ i = .int .i64 k ∧ n = .int .i64 m ∧ (m ≤ 5000 ∧ m = totB bs k ∨ 5000 < m ∧ m ≤ 5001 ∧ 5000 < totB bs k)) (fun _ i => pn - (intOf i).toNat)
  case atStart => exact ⟨0, 0, by omega, rfl, rfl, .inl ⟨by omega, rfl⟩⟩
  case round =>
    obtain ⟨k, m, hk, rfl, rfl, hm⟩ := hrel
    by_cases hlt : k < pn ∧ m ≤ 5000
    · obtain ⟨hlt, hm5⟩ := hlt
      have hm := (hm.resolve_right (by omega)).2
      have hkT : k < bs.length := by rw [hlen.out]; exact hlt
      obtain ⟨ao, n, c, hv, hsk⟩ := hp.out.2 k hkT
      have hvs : vs ≠ [] := by
        rintro rfl
        have := hp.out.1
        simp at this
        omega
      obtain ⟨bk, off, rfl, hbk, hcell⟩ := hsl.out.at hvs
      have cc := hcell k _ hv
      have hsz := hbl.out k
      have hsu := totB_succ hkT
      have hln : (bs.getD k []).length = n := by have := hsk.len; rw [bv_length] at this; omega
      rw [hln] at hsz hsu
      rw [← hm] at hsu
      clear hm hln hsk hv hcell hkT
      have q0 : 0 ≤ (k : Int) := by omega
      have q1 : (k : Int) < (pn : Int) := by omega
      have h1 := hadd.out m (1 + n) 5000 w (by omega) (by omega) (by omega)
      rw [show ((1 + n : Nat) : Int) = 1 + (n : Int) from by omega] at h1
      have h2 : addUp m (1 + n) 5000 ≤ 5000 ∧ addUp m (1 + n) 5000 = totB bs (k + 1) ∨ 5000 < addUp m (1 + n) 5000 ∧ addUp m (1 + n) 5000 ≤ 5001 ∧ 5000 < totB bs (k + 1) := by
        rw [hsu]
        unfold addUp
        split <;> omega
      obtain ⟨m2, hm2⟩ : ∃ x, x = addUp m (1 + n) 5000 := ⟨_, rfl⟩
      rw [← hm2] at h1 h2
      clear hsu hm2
      replace h2 := Lib.hid h2
      replace h1 := Lib.hid h1
      go_wp2_with fail
      refine (h1.out).mono ?_
      rintro e w2 ⟨rfl, rfl⟩
      go_wp2
      go_round
      case rel => exact ⟨k + 1, m2, by omega, by go_num, rfl, h2.out⟩
      case measure => simp [intOf]; omega
    · have hmono := totB_mono bs k (by rw [hlen.out]; exact hk)
      have hL : LightB bs = decide ((m : Int) ≤ 5000) := by
        unfold LightB
        rw [decide_eq_decide]
        rcases hm with ⟨h1, h2⟩ | ⟨h1, _, h2⟩
        · have hkp : k = pn := by omega
          rw [hlen.out, ← hkp]
          omega
        · omega
      replace hL := Lib.hid hL
      clear hmono
      by_cases hks : k < pn
      all_goals
        rcases hm with ⟨h1, h2⟩ | ⟨h1, h3, h2⟩
        all_goals
          first
          | (exfalso; omega)
          | (clear h2 hlt
             go_wp2
             go_ret
             exact ⟨by rw [hL.out]; simp [h1]; try omega, rfl⟩)
/-- Copies of parts, apart from two rows that grow. -/
def Copies (w : World) (base : Nat) (v5 v6 : Value) (vs : List Value) (bs : List (List UInt8)) : Prop :=
  vs.length = bs.length ∧ ∀ j, j < bs.length → ∃ ao n c, vs[j]? = some (.slice ao n c) ∧ Sl w 1 ao n c (bv (bs.getD j [])) ∧ ∀ b, ao = some b → base ≤ b.block ∧ b.block < w.heap.size ∧ v5.ownBlock ≠ some b.block ∧ v6.ownBlock ≠ some b.block
theorem Copies.sls {w : World} {base : Nat} {v5 v6 : Value} {vs : List Value} {bs : List (List UInt8)} (h : Copies w base v5 v6 vs bs) : Sls w vs bs :=
  ⟨h.1, fun j hj => by
    obtain ⟨ao, n, c, h1, h2, _⟩ := h.2 j hj
    exact ⟨ao, n, c, h1, h2⟩⟩
theorem Copies.same {w w' : World} {base : Nat} {v5 v6 : Value} {vs : List Value} {bs : List (List UInt8)} (h : Copies w base v5 v6 vs bs) (k : Same w w') : Copies w' base v5 v6 vs bs :=
  ⟨h.1, fun j hj => by
    obtain ⟨ao, n, c, h1, h2, h3⟩ := h.2 j hj
    exact ⟨ao, n, c, h1, h2.same k, fun b hb => ⟨(h3 b hb).1, Nat.lt_of_lt_of_le (h3 b hb).2.1 k.size, (h3 b hb).2.2⟩⟩⟩
theorem Copies.grow5 {w w' : World} {base : Nat} {v5 v5' v6 : Value} {vs : List Value} {bs : List (List UInt8)} (h : Copies w base v5 v6 vs bs) (k : Keep (fun x => v5.ownBlock = some x) w w') (hv : ∀ x, v5'.ownBlock = some x → v5.ownBlock = some x ∨ w.heap.size ≤ x) : Copies w' base v5' v6 vs bs :=
  ⟨h.1, fun j hj => by
    obtain ⟨ao, n, c, h1, h2, h3⟩ := h.2 j hj
    refine ⟨ao, n, c, h1, h2.keep k fun b hb _ => (h3 b hb).2.2.1, fun b hb => ?_⟩
    obtain ⟨g1, g2, g3, g4⟩ := h3 b hb
    exact ⟨g1, Nat.lt_of_lt_of_le g2 k.size, fun hx => (hv _ hx).elim g3 (fun hx => by omega), g4⟩⟩
theorem Copies.grow6 {w w' : World} {base : Nat} {v5 v6 v6' : Value} {vs : List Value} {bs : List (List UInt8)} (h : Copies w base v5 v6 vs bs) (k : Keep (fun x => v6.ownBlock = some x) w w') (hv : ∀ x, v6'.ownBlock = some x → v6.ownBlock = some x ∨ w.heap.size ≤ x) : Copies w' base v5 v6' vs bs :=
  ⟨h.1, fun j hj => by
    obtain ⟨ao, n, c, h1, h2, h3⟩ := h.2 j hj
    refine ⟨ao, n, c, h1, h2.keep k fun b hb _ => (h3 b hb).2.2.2, fun b hb => ?_⟩
    obtain ⟨g1, g2, g3, g4⟩ := h3 b hb
    exact ⟨g1, Nat.lt_of_lt_of_le g2 k.size, g3, fun hx => (hv _ hx).elim g4 (fun hx => by omega)⟩⟩
theorem Copies.snoc {w : World} {base : Nat} {v5 v6 : Value} {vs : List Value} {bs : List (List UInt8)} {ao : Option Addr} {n c : Nat} {l : List UInt8} (h : Copies w base v5 v6 vs bs) (hs : Sl w 1 ao n c (bv l)) (hb : ∀ b, ao = some b → base ≤ b.block ∧ b.block < w.heap.size ∧ v5.ownBlock ≠ some b.block ∧ v6.ownBlock ≠ some b.block) : Copies w base v5 v6 (vs ++ [.slice ao n c]) (bs ++ [l]) := by
  refine ⟨by simp [h.1], fun j hj => ?_⟩
  simp only [List.length_append, List.length_singleton] at hj
  by_cases hlt : j < bs.length
  · obtain ⟨ao', n', c', h1, h2, h3⟩ := h.2 j hlt
    refine ⟨ao', n', c', by rw [List.getElem?_append_left (by rw [h.1]; exact hlt)]; exact h1, ?_, h3⟩
    simpa [List.getD, List.getElem?_append_left hlt] using h2
  · obtain rfl : j = bs.length := by omega
    refine ⟨ao, n, c, by rw [← h.1]; simp, ?_, hb⟩
    simpa [List.getD] using hs
end Go.Proofs.Yteokeidclgfgnaa
