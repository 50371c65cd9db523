/-
  The digest's Parse, the program's and the document's; the document's Text.
-/
import Derived.Test.YteokeidclgfgnaaShaRef3
import Derived.Test.YteokeidclgfgnaaEq
namespace Go.Proofs.Yteokeidclgfgnaa
open Go Go.RowKit
set_option linter.unusedSimpArgs false
set_option linter.unusedVariables false

/-- A digit's number; 16: it is none. -/
def Sha.unhex (c : Nat) : Nat := if 48 ≤ c ∧ c ≤ 57 then c - 48 else if 97 ≤ c ∧ c ≤ 102 then c - 87 else 16
theorem Sha.unhex_le (c : Nat) : Sha.unhex c ≤ 16 := by
  unfold Sha.unhex
  split
  · omega
  · split <;> omega
theorem Sha.unhex_hexd : ∀ n : Fin 16, Sha.unhex (Sha.hexd n.val).toNat = n.val := by decide +kernel
/-- Of which digit a byte is. -/
theorem Sha.hexd_unhex : ∀ c : Fin 256, ∀ n : Fin 16, ((Sha.hexd n.val).toNat = c.val) = (Sha.unhex c.val = n.val) := by decide +kernel
def Sha.okAt (s : List UInt8) (i : Nat) : Bool := decide (Sha.unhex (s.getD (2 * i) 0).toNat < 16) && decide (Sha.unhex (s.getD (2 * i + 1) 0).toNat < 16)
def Sha.pAt (s : List UInt8) (i : Nat) : UInt8 := UInt8.ofNat (16 * Sha.unhex (s.getD (2 * i) 0).toNat + Sha.unhex (s.getD (2 * i + 1) 0).toNat)
def Sha.pPart (s : List UInt8) (k : Nat) : List UInt8 := (List.range k).map (Sha.pAt s) ++ List.replicate (32 - k) 0
def Sha.okTo (s : List UInt8) (k : Nat) : Bool := (List.range k).all (Sha.okAt s)
theorem Sha.okTo_succ (s : List UInt8) (k : Nat) : Sha.okTo s (k + 1) = (Sha.okTo s k && Sha.okAt s k) := by
  simp [Sha.okTo, List.range_succ]
def Sha.parse (s : List UInt8) : List UInt8 × Nat := if s.length = 64 ∧ Sha.okTo s 32 = true then (Sha.pPart s 32, 0) else (List.replicate 32 0, 11)
theorem Sha.pPart_length (s : List UInt8) (k : Nat) (h : k ≤ 32) : (Sha.pPart s k).length = 32 := by
  simp [Sha.pPart]
  omega
theorem Sha.parse_length (s : List UInt8) : (Sha.parse s).1.length = 32 := by
  unfold Sha.parse
  split
  · exact Sha.pPart_length s 32 (Nat.le_refl _)
  · simp
theorem Sha.pPart_zero (s : List UInt8) : Sha.pPart s 0 = List.replicate 32 0 := rfl
theorem Sha.pPart_set (s : List UInt8) (k : Nat) (h : k < 32) : (bv (Sha.pPart s k)).toArray.setIfInBounds k (.int .u8 ((Sha.pAt s k).toNat : Int)) = (bv (Sha.pPart s (k + 1))).toArray := by
  have e : (Sha.pPart s k).set k (Sha.pAt s k) = Sha.pPart s (k + 1) := by
    unfold Sha.pPart
    have h1 : ((List.range k).map (Sha.pAt s)).length = k := by simp
    have h2 : List.replicate (32 - k) (0 : UInt8) = 0 :: List.replicate (32 - (k + 1)) 0 := by
      rw [← List.replicate_succ]
      congr 1
      omega
    rw [List.set_append_right _ _ (by omega), h1, Nat.sub_self, h2, List.range_succ, List.map_append]
    simp
  rw [← e]
  simp [bv, List.map_set]
/-- A digest comes back from its text. -/
theorem Sha.text_get (l : List UInt8) : ∀ i, i < l.length → (Sha.text l).getD (2 * i) 0 = Sha.hexd ((l.getD i 0).toNat / 16) ∧ (Sha.text l).getD (2 * i + 1) 0 = Sha.hexd ((l.getD i 0).toNat % 16) := by
  induction l with
  | nil => intro i h; simp at h
  | cons x l ih =>
    intro i h
    have e1 : Sha.text (x :: l) = Sha.hexd (x.toNat / 16) :: Sha.hexd (x.toNat % 16) :: Sha.text l := rfl
    rw [e1]
    rcases i with _ | i
    · exact ⟨rfl, rfl⟩
    · have := ih i (by simpa using h)
      rw [show 2 * (i + 1) = 2 * i + 1 + 1 from by omega, List.getD_cons_succ, List.getD_cons_succ, List.getD_cons_succ, List.getD_cons_succ, List.getD_cons_succ]
      exact this
theorem Sha.parse_text (l : List UInt8) (hl : l.length = 32) : Sha.parse (Sha.text l) = (l, 0) := by
  have hu : ∀ i, i < 32 → Sha.unhex ((Sha.text l).getD (2 * i) 0).toNat = (l.getD i 0).toNat / 16 ∧ Sha.unhex ((Sha.text l).getD (2 * i + 1) 0).toNat = (l.getD i 0).toNat % 16 := by
    intro i hi
    obtain ⟨h1, h2⟩ := Sha.text_get l i (by omega)
    have hb := (l.getD i 0).toNat_lt
    rw [h1, h2]
    exact ⟨Sha.unhex_hexd ⟨_, by omega⟩, Sha.unhex_hexd ⟨_, by omega⟩⟩
  have hok : Sha.okTo (Sha.text l) 32 = true := by
    rw [Sha.okTo, List.all_eq_true]
    intro i hi
    rw [List.mem_range] at hi
    obtain ⟨h1, h2⟩ := hu i hi
    have hb := (l.getD i 0).toNat_lt
    simp only [Sha.okAt, h1, h2, Bool.and_eq_true, decide_eq_true_eq]
    omega
  unfold Sha.parse
  rw [if_pos ⟨by rw [Sha.text_length, hl], hok⟩]
  congr 1
  apply List.ext_getElem
  · rw [Sha.pPart_length _ _ (Nat.le_refl _), hl]
  · intro i h1 h2
    have hi : i < 32 := by omega
    obtain ⟨g1, g2⟩ := hu i hi
    have hb := (l.getD i 0).toNat_lt
    have hg : l.getD i 0 = l[i] := by simp [List.getD, h2]
    have e1 : (Sha.pPart (Sha.text l) 32)[i] = Sha.pAt (Sha.text l) i := by
      simp only [Sha.pPart, Nat.sub_self, List.replicate_zero, List.append_nil, List.getElem_map, List.getElem_range]
    refine e1.trans ?_
    rw [Sha.pAt, g1, g2, ← hg]
    apply UInt8.toNat_inj.1
    rw [UInt8.toNat_ofNat']
    omega
/-- The results are a whole value that lies in a block, and a slot. -/
theorem results_row2 {P : Program} {fn : Func} {p q : Tmp} {ty : TypeId} (h : fn.results = #[.cell p ty, .tmp q]) (tmps : Array Value) (w : World) (g : Nat) (t : TypeId) (cs : Array Value) (fr : Nat × Nat) (d : TypeDesc) (v : Value)
    (hp : tmps.getD p undef = .pointer (some ⟨g, 0, none⟩)) (hv : tmps.getD q undef = v) (hb : w.heap[g]? = some (.cells cs t fr)) (hu : P.underlying ty = some d) (hd : (match d with | .struct _ | .array _ _ => true | _ => false) = true) (hi : (P.info? ty).map (·.size) = some cs.size) :
    (results fn tmps).run P w = .ok (.tuple #[.agg cs, v]) w := by
  have hl := run_loadVar_row (P := P) w g t ty cs fr d hb hu hd hi
  have hp' : tmps[p]?.getD undef = .pointer (some ⟨g, 0, none⟩) := by simpa [Array.getD_eq_getD_getElem?] using hp
  have hv' : tmps[q]?.getD undef = v := by simpa [Array.getD_eq_getD_getElem?] using hv
  simp only [results, h]
  simp [Sem.run_bind, Result.andThen, hp', hv', asAddr, hl]
/-- What digit tells. -/
def digV (c : Nat) : Value := if Sha.unhex c < 16 then .tuple #[.int .u8 (Sha.unhex c : Int), .bool true] else .tuple #[.int .u8 0, .bool false]
set_option maxRecDepth 100000 in
set_option maxHeartbeats 400000 in
theorem digit_any (c : Nat) (hc : c < 256) (w : World) :
    Calls Try.prog 71 #[.int .u8 c] w fun e w' => e = .returned (digV c) ∧ w = w' := by
  unfold digV
  by_cases h1 : 48 ≤ c
  · by_cases h2 : c ≤ 57
    · have hu : Sha.unhex c = c - 48 := by rw [Sha.unhex, if_pos ⟨h1, h2⟩]
      rw [hu, if_pos (by omega)]
      have e1 : ((c - 48 : Nat) : Int) = (c : Int) - 48 := by omega
      rw [e1]
      clear e1 hu
      go_enter Try.func71, Try.ntmps71
      go_wp2
      go_ret2
      exact ⟨rfl, rfl⟩
    · by_cases h3 : 97 ≤ c
      · by_cases h4 : c ≤ 102
        · have hu : Sha.unhex c = c - 87 := by rw [Sha.unhex, if_neg (by omega), if_pos ⟨h3, h4⟩]
          rw [hu, if_pos (by omega)]
          have e1 : ((c - 87 : Nat) : Int) = (c : Int) - 97 + 10 := by omega
          rw [e1]
          clear e1 hu
          go_enter Try.func71, Try.ntmps71
          go_wp2
          go_ret2
          exact ⟨rfl, rfl⟩
        · have hu : Sha.unhex c = 16 := by rw [Sha.unhex, if_neg (by omega), if_neg (by omega)]
          rw [hu, if_neg (by omega)]
          clear hu
          go_enter Try.func71, Try.ntmps71
          go_wp2
          go_ret2
          exact ⟨rfl, rfl⟩
      · have hu : Sha.unhex c = 16 := by rw [Sha.unhex, if_neg (by omega), if_neg (by omega)]
        rw [hu, if_neg (by omega)]
        clear hu
        go_enter Try.func71, Try.ntmps71
        go_wp2
        go_ret2
        exact ⟨rfl, rfl⟩
  · have hu : Sha.unhex c = 16 := by rw [Sha.unhex, if_neg (by omega), if_neg (by omega)]
    rw [hu, if_neg (by omega)]
    clear hu
    go_enter Try.func71, Try.ntmps71
    go_wp2
    go_ret2
    exact ⟨rfl, rfl⟩
set_option maxRecDepth 100000 in
set_option maxHeartbeats 400000 in
theorem place_any (c : Nat) (hc : c < 256) (w : World) :
    Calls Try.prog 72 #[.int .u8 c] w fun e w' => e = .returned (.int .i64 (Sha.unhex c : Int)) ∧ w = w' := by
  have hle := Sha.unhex_le c
  obtain ⟨u, hu⟩ : ∃ u, u = Sha.unhex c := ⟨_, rfl⟩
  have hx : ∀ n, n < 16 → ((Sha.hexd n).toNat = c ↔ u = n) := fun n hn => by
    have := Sha.hexd_unhex ⟨c, hc⟩ ⟨n, hn⟩
    simp only at this
    rw [hu, this]
  rw [← hu] at hle
  rw [← hu]
  clear hu
  replace hx := Lib.hid hx
  go_enter Try.func72, Try.ntmps72
  go_wp2
  go_loop [3] (fun i => ∃ k : Nat, k ≤ 16 ∧ i = .int .i64 k ∧ k ≤ u) (fun i => 16 - (intOf i).toNat)
  case atStart => exact ⟨0, by omega, rfl, by omega⟩
  case round =>
    obtain ⟨k, hk, rfl, hku⟩ := hrel
    by_cases hlt : k < 16
    · have h1 := hx.out k hlt
      have h2 := hex_get k hlt
      have q0 : 0 ≤ (k : Int) := by omega
      have q1 : (k : Int) < 16 := by omega
      by_cases he : u = k
      · subst he
        have h3 := h1.2 rfl
        rw [h3] at h2
        clear h1 h3
        go_wp2
        go_ret
        exact ⟨rfl, rfl⟩
      · have h3 : ¬ (Sha.hexd k).toNat = c := fun h => he (h1.1 h)
        obtain ⟨z, hz⟩ : ∃ z, z = (Sha.hexd k).toNat := ⟨_, rfl⟩
        rw [← hz] at h2 h3
        clear h1 hz
        have h4 : ((z : Int) == (c : Int)) = false := by simp; omega
        go_wp2
        go_round
        case rel => exact ⟨k + 1, by omega, by go_num, by omega⟩
        case measure => simp [intOf]; omega
    · obtain rfl : k = 16 := by omega
      obtain rfl : u = 16 := by omega
      go_wp2
      go_ret
      exact ⟨rfl, rfl⟩
theorem str_index (s : ByteArray) (k : Nat) (hk : k < s.size) : s[k] = s.data.toList.getD k 0 := by
  have : k < s.data.toList.length := hk
  simp only [List.getD, List.getElem?_eq_getElem this, Option.getD_some]
  rfl
theorem or_hex : ∀ a b : Fin 16, bits BinOp.or .u8 ((a.val : Int) * 16) (b.val : Int) = ((UInt8.ofNat (16 * a.val + b.val)).toNat : Int) := by decide +kernel
set_option maxRecDepth 100000 in
set_option maxHeartbeats 1000000 in
theorem parse_bad (s : ByteArray) (hs : s.size ≠ 64) (hm : s.size ≤ 140737488355328) (w : World) :
    Calls Try.prog 39 #[.string s] w fun e w' => e = .returned (.tuple #[.agg (bv (List.replicate 32 0)).toArray, .int .i64 11]) ∧ Same w w' := by
  have hinf := Lib.hid (dig_info (l := List.replicate 32 0) (by simp))
  have h1 : ((s.size : Int) != 64) = true := by simp; omega
  go_enter Try.func39, Try.ntmps39
  go_wp2_with (first | (refine alloc_new rfl 28 rfl (bv (List.replicate 32 0)).toArray (by kernel_rfl) ?_; intro w1 hd hs1; replace hd := Lib.hid hd; replace hs1 := Lib.hid hs1) | (refine load_row rfl _ _ rfl w.heap.size rfl _ _ _ _ hd.out Try.underlying28 rfl hinf.out ?_) | (refine store_row rfl _ _ _ rfl w.heap.size _ rfl rfl _ _ hd.out hinf.out rfl (by simpa using bv_cell) ?_; intro w9 hb9 hk9; replace hb9 := Lib.hid hb9; replace hk9 := Lib.hid hk9))
  refine bodyPost_ret (v := .tuple #[.agg (bv (List.replicate 32 0)).toArray, .int .i64 11]) (results_row2 (p := 2) (q := 3) (ty := 28) rfl _ _ w.heap.size _ _ _ _ _ rfl rfl hb9.out Try.underlying28 rfl hinf.out) rfl ?_
  exact ⟨rfl, hs1.out.keep hk9.out (fun x hx hv => by omega)⟩
set_option maxRecDepth 100000 in
set_option maxHeartbeats 2000000 in
theorem parse_64 (s : ByteArray) (hs : s.size = 64) (w : World) :
    Calls Try.prog 39 #[.string s] w fun e w' => e = .returned (.tuple #[.agg (bv (Sha.parse s.data.toList).1).toArray, .int .i64 (Sha.parse s.data.toList).2]) ∧ Same w w' := by
  have hsl : s.data.toList.length = 64 := hs
  have hidx := str_index s
  have hpz := Sha.pPart_zero s.data.toList
  have hparse : Sha.parse s.data.toList = if Sha.okTo s.data.toList 32 = true then (Sha.pPart s.data.toList 32, 0) else (List.replicate 32 0, 11) := by
    unfold Sha.parse
    simp only [hsl, true_and]
  have hst : ∀ k, k < 32 → Sha.okTo s.data.toList (k + 1) = (Sha.okTo s.data.toList k && Sha.okAt s.data.toList k) := fun k _ => Sha.okTo_succ _ k
  have hmono : ∀ k, k ≤ 32 → Sha.okTo s.data.toList k = false → Sha.okTo s.data.toList 32 = false := by
    intro k hk h
    rw [← Bool.not_eq_true] at h ⊢
    intro h2
    refine h ?_
    rw [Sha.okTo, List.all_eq_true] at h2 ⊢
    intro x hx
    exact h2 x (by rw [List.mem_range] at hx ⊢; omega)
  have hset := fun k hk => Sha.pPart_set s.data.toList k hk
  have hplen := fun k hk => Sha.pPart_length s.data.toList k hk
  obtain ⟨L, hL⟩ : ∃ L, L = s.data.toList := ⟨_, rfl⟩
  rw [← hL] at hidx hparse hst hmono hset hplen hpz
  rw [← hL]
  have hok : ∀ k, Sha.okAt L k = (decide (Sha.unhex (L.getD (2 * k) 0).toNat < 16) && decide (Sha.unhex (L.getD (2 * k + 1) 0).toNat < 16)) := fun k => rfl
  have hpa : ∀ k, Sha.pAt L k = UInt8.ofNat (16 * Sha.unhex (L.getD (2 * k) 0).toNat + Sha.unhex (L.getD (2 * k + 1) 0).toNat) := fun k => rfl
  have hinf0 := Lib.hid (dig_info (l := List.replicate 32 0) (by simp))
  have hinfP := Lib.hid (dig_info (hplen 32 (Nat.le_refl _)))
  have hdig := Lib.hid digit_any
  clear hL hsl
  replace hidx := Lib.hid hidx
  replace hparse := Lib.hid hparse
  replace hst := Lib.hid hst
  replace hmono := Lib.hid hmono
  replace hset := Lib.hid hset
  replace hplen := Lib.hid hplen
  replace hpz := Lib.hid hpz
  replace hok := Lib.hid hok
  replace hpa := Lib.hid hpa
  go_enter Try.func39, Try.ntmps39
  go_wp2_with (refine alloc_new rfl 28 rfl (bv (List.replicate 32 0)).toArray (by kernel_rfl) ?_; intro w1 hd hs1; rw [← hpz.out] at hd; have hdl := blk_lt hd; replace hd := Lib.hid hd; replace hs1 := Lib.hid hs1)
  go_loopw [13] (fun i wr => ∃ k : Nat, k ≤ 32 ∧ i = .int .i64 k ∧ Sha.okTo L k = true ∧ wr.heap[w.heap.size]? = some (.cells (bv (Sha.pPart L k)).toArray 28 (0, 0)) ∧ Keep (· = w.heap.size) w1 wr) (fun i _ => 32 - (intOf i).toNat)
  case atStart => exact ⟨0, by omega, rfl, rfl, hd.out, Keep.refl⟩
  case round =>
    obtain ⟨k, hk, rfl, hokk, hb, hkp⟩ := hrel
    by_cases hlt : k < 32
    · have i1 := hidx.out (2 * k) (by omega)
      have i2 := hidx.out (2 * k + 1) (by omega)
      have p0 : 0 ≤ 2 * (k : Int) := by omega
      have p1 : 2 * (k : Int) < 64 := by omega
      have p2 : 0 ≤ 2 * (k : Int) + 1 := by omega
      have p3 : 2 * (k : Int) + 1 < 64 := by omega
      have n0 : (2 * (k : Int)).toNat = 2 * k := by omega
      have n1 : (2 * (k : Int) + 1).toNat = 2 * k + 1 := by omega
      have hst1 := hst.out k hlt
      have hm1 := hmono.out (k + 1) (by omega)
      have hset1 := hset.out k hlt
      have hd1 := hdig.out (L.getD (2 * k) 0).toNat (L.getD (2 * k) 0).toNat_lt
      have hd2 := hdig.out (L.getD (2 * k + 1) 0).toNat (L.getD (2 * k + 1) 0).toNat_lt
      rw [hok.out k, hokk, Bool.true_and] at hst1
      rw [hpa.out k] at hset1
      obtain ⟨c1, hc1⟩ : ∃ c, c = L.getD (2 * k) 0 := ⟨_, rfl⟩
      obtain ⟨c2, hc2⟩ : ∃ c, c = L.getD (2 * k + 1) 0 := ⟨_, rfl⟩
      rw [← hc1, ← hc2] at hst1 hset1
      rw [← hc1] at i1 hd1
      rw [← hc2] at i2 hd2
      unfold digV at hd1 hd2
      obtain ⟨u1, hu1⟩ : ∃ u, u = Sha.unhex c1.toNat := ⟨_, rfl⟩
      obtain ⟨u2, hu2⟩ : ∃ u, u = Sha.unhex c2.toNat := ⟨_, rfl⟩
      rw [← hu1, ← hu2] at hst1 hset1
      rw [← hu1] at hd1
      rw [← hu2] at hd2
      have cz := dig_cell hb (j := k) (by rw [hplen.out k hk]; exact hlt)
      have fz := blk_frozen hb k
      clear hc1 hc2 hu1 hu2
      replace hb := Lib.hid hb
      replace hkp := Lib.hid hkp
      replace hokk := Lib.hid hokk
      by_cases h1 : u1 < 16
      · rw [if_pos h1] at hd1
        replace hd1 := Lib.hid hd1
        by_cases h2 : u2 < 16
        · -- [[A
          rw [if_pos h2] at hd2
          replace hd2 := Lib.hid hd2
          have hok1 : Sha.okTo L (k + 1) = true := by rw [hst1]; simp [h1, h2]
          clear hst1 hm1
          replace hok1 := Lib.hid hok1
          replace hset1 := Lib.hid hset1
          have q0 : 0 ≤ (k : Int) := by omega
          have q1 : (k : Int) < 32 := by omega
          go_wp2_with fail
          refine (hd1.out _).mono ?_
          rintro e w2 ⟨rfl, rfl⟩
          go_wp2_with fail
          refine (hd2.out _).mono ?_
          rintro e w2 ⟨rfl, rfl⟩
          go_wp2
          go_roundw
          case rel =>
            have hor := or_hex ⟨u1, h1⟩ ⟨u2, h2⟩
            simp only at hor
            rw [hor]
            exact ⟨k + 1, by omega, by go_num, hok1.out, (blk_set hb.out).trans (by rw [hset1.out]), hkp.out.trans (Keep.setCell (p := (· = w.heap.size)) _ rfl) (fun _ _ h => h)⟩
          case measure => simp [intOf]; omega
          -- A]]
        · -- [[B
          rw [if_neg h2] at hd2
          replace hd2 := Lib.hid hd2
          have hz : Sha.parse L = (List.replicate 32 0, 11) := by
            rw [hparse.out, hm1 (by rw [hst1]; simp [h2])]
            rfl
          clear hst1 hm1 hset1
          replace hz := Lib.hid hz
          go_wp2_with fail
          refine (hd1.out _).mono ?_
          rintro e w2 ⟨rfl, rfl⟩
          go_wp2_with fail
          refine (hd2.out _).mono ?_
          rintro e w2 ⟨rfl, rfl⟩
          go_wp2_with (first | (refine build_const (.agg (bv (List.replicate 32 0)).toArray) rfl (ty := 28) rfl (by kernel_rfl) ?_) | (refine store_row rfl _ _ _ rfl w.heap.size _ rfl rfl _ _ hb.out hinf0.out (by rw [List.size_toArray, List.size_toArray, bv_length, bv_length, hplen.out k hk]; rfl) (by simpa using bv_cell) ?_; intro w9 hb9 hk9; replace hb9 := Lib.hid hb9; replace hk9 := Lib.hid hk9))
          rw [hz.out]
          refine bodyPost_ret (v := .tuple #[.agg (bv (List.replicate 32 0)).toArray, .int .i64 11]) (results_row2 (p := 2) (q := 3) (ty := 28) rfl _ _ w.heap.size _ _ _ _ _ rfl rfl hb9.out Try.underlying28 rfl hinf0.out) rfl ?_
          exact ⟨rfl, (hs1.out.keep hkp.out (fun x hx hv => by omega)).keep hk9.out (fun x hx hv => by omega)⟩
          -- B]]
      · -- [[C
        rw [if_neg h1] at hd1
        replace hd1 := Lib.hid hd1
        have hz : Sha.parse L = (List.replicate 32 0, 11) := by
          rw [hparse.out, hm1 (by rw [hst1]; simp [h1])]
          rfl
        clear hst1 hm1 hset1
        replace hz := Lib.hid hz
        by_cases h2 : u2 < 16
        all_goals
          first | rw [if_pos h2] at hd2 | rw [if_neg h2] at hd2
          replace hd2 := Lib.hid hd2
          go_wp2_with fail
          refine (hd1.out _).mono ?_
          rintro e w2 ⟨rfl, rfl⟩
          go_wp2_with fail
          refine (hd2.out _).mono ?_
          rintro e w2 ⟨rfl, rfl⟩
          go_wp2_with (first | (refine build_const (.agg (bv (List.replicate 32 0)).toArray) rfl (ty := 28) rfl (by kernel_rfl) ?_) | (refine store_row rfl _ _ _ rfl w.heap.size _ rfl rfl _ _ hb.out hinf0.out (by rw [List.size_toArray, List.size_toArray, bv_length, bv_length, hplen.out k hk]; rfl) (by simpa using bv_cell) ?_; intro w9 hb9 hk9; replace hb9 := Lib.hid hb9; replace hk9 := Lib.hid hk9))
          rw [hz.out]
          refine bodyPost_ret (v := .tuple #[.agg (bv (List.replicate 32 0)).toArray, .int .i64 11]) (results_row2 (p := 2) (q := 3) (ty := 28) rfl _ _ w.heap.size _ _ _ _ _ rfl rfl hb9.out Try.underlying28 rfl hinf0.out) rfl ?_
          exact ⟨rfl, (hs1.out.keep hkp.out (fun x hx hv => by omega)).keep hk9.out (fun x hx hv => by omega)⟩
        -- C]]
    · obtain rfl : k = 32 := by omega
      have hz : Sha.parse L = (Sha.pPart L 32, 0) := by
        rw [hparse.out, hokk]
        rfl
      replace hz := Lib.hid hz
      replace hb := Lib.hid hb
      replace hkp := Lib.hid hkp
      clear hokk hlt
      go_wp2_with (first | (refine load_row rfl _ _ rfl w.heap.size rfl _ _ _ _ hb.out Try.underlying28 rfl hinfP.out ?_) | (refine store_row rfl _ _ _ rfl w.heap.size _ rfl rfl _ _ hb.out hinfP.out rfl (by simpa using bv_cell) ?_; intro w9 hb9 hk9; replace hb9 := Lib.hid hb9; replace hk9 := Lib.hid hk9))
      rw [hz.out]
      refine bodyPost_ret (v := .tuple #[.agg (bv (Sha.pPart L 32)).toArray, .int .i64 0]) (results_row2 (p := 2) (q := 3) (ty := 28) rfl _ _ w.heap.size _ _ _ _ _ rfl rfl hb9.out Try.underlying28 rfl hinfP.out) rfl ?_
      exact ⟨rfl, (hs1.out.keep hkp.out (fun x hx hv => by omega)).keep hk9.out (fun x hx hv => by omega)⟩
theorem parse_any (s : ByteArray) (hm : s.size ≤ 140737488355328) (w : World) :
    Calls Try.prog 39 #[.string s] w fun e w' => e = .returned (.tuple #[.agg (bv (Sha.parse s.data.toList).1).toArray, .int .i64 (Sha.parse s.data.toList).2]) ∧ Same w w' := by
  by_cases hs : s.size = 64
  · exact parse_64 s hs w
  · have hz : Sha.parse s.data.toList = (List.replicate 32 0, 11) := by
      unfold Sha.parse
      rw [if_neg (fun h => hs h.1)]
    rw [hz]
    exact parse_bad s hs hm w
set_option maxRecDepth 100000 in
set_option maxHeartbeats 1000000 in
theorem rparse_bad (s : ByteArray) (hs : s.size ≠ 64) (hm : s.size ≤ 140737488355328) (w : World) :
    Calls Try.prog 40 #[.string s] w fun e w' => e = .returned (.tuple #[.agg (bv (List.replicate 32 0)).toArray, .int .i64 11]) ∧ Same w w' := by
  have hinf := Lib.hid (dig_info (l := List.replicate 32 0) (by simp))
  have h1 : ((s.size : Int) != 64) = true := by simp; omega
  go_enter Try.func40, Try.ntmps40
  go_wp2_with (refine alloc_new rfl 28 rfl (bv (List.replicate 32 0)).toArray (by kernel_rfl) ?_)
  intro w1 hd hs1
  have hdl := blk_lt hd
  replace hd := Lib.hid hd
  replace hs1 := Lib.hid hs1
  go_wp2_with (refine alloc_new rfl 28 rfl (bv (List.replicate 32 0)).toArray (by kernel_rfl) ?_)
  intro w2 hd2 hs2
  have hd3 := (hs2.block _ hdl).trans hd.out
  replace hd2 := Lib.hid hd2
  replace hd3 := Lib.hid hd3
  replace hs2 := Lib.hid hs2
  go_wp2_with (first | (refine load_row rfl _ _ rfl w1.heap.size rfl _ _ _ _ hd2.out Try.underlying28 rfl hinf.out ?_) | (refine store_row rfl _ _ _ rfl w.heap.size _ rfl rfl _ _ hd3.out hinf.out rfl (by simpa using bv_cell) ?_; intro w9 hb9 hk9; replace hb9 := Lib.hid hb9; replace hk9 := Lib.hid hk9))
  refine bodyPost_ret (v := .tuple #[.agg (bv (List.replicate 32 0)).toArray, .int .i64 11]) (results_row2 (p := 2) (q := 3) (ty := 28) rfl _ _ w.heap.size _ _ _ _ _ rfl rfl hb9.out Try.underlying28 rfl hinf.out) rfl ?_
  exact ⟨rfl, (hs1.out.trans hs2.out).keep hk9.out (fun x hx hv => by omega)⟩
set_option maxRecDepth 100000 in
set_option maxHeartbeats 2000000 in
theorem rparse_64 (s : ByteArray) (hs : s.size = 64) (w : World) :
    Calls Try.prog 40 #[.string s] w fun e w' => e = .returned (.tuple #[.agg (bv (Sha.parse s.data.toList).1).toArray, .int .i64 (Sha.parse s.data.toList).2]) ∧ Same w w' := by
  have hsl : s.data.toList.length = 64 := hs
  have hidx := str_index s
  have hpz := Sha.pPart_zero s.data.toList
  have hparse : Sha.parse s.data.toList = if Sha.okTo s.data.toList 32 = true then (Sha.pPart s.data.toList 32, 0) else (List.replicate 32 0, 11) := by
    unfold Sha.parse
    simp only [hsl, true_and]
  have hst : ∀ k, k < 32 → Sha.okTo s.data.toList (k + 1) = (Sha.okTo s.data.toList k && Sha.okAt s.data.toList k) := fun k _ => Sha.okTo_succ _ k
  have hmono : ∀ k, k ≤ 32 → Sha.okTo s.data.toList k = false → Sha.okTo s.data.toList 32 = false := by
    intro k hk h
    rw [← Bool.not_eq_true] at h ⊢
    intro h2
    refine h ?_
    rw [Sha.okTo, List.all_eq_true] at h2 ⊢
    intro x hx
    exact h2 x (by rw [List.mem_range] at hx ⊢; omega)
  have hset := fun k hk => Sha.pPart_set s.data.toList k hk
  have hplen := fun k hk => Sha.pPart_length s.data.toList k hk
  obtain ⟨L, hL⟩ : ∃ L, L = s.data.toList := ⟨_, rfl⟩
  rw [← hL] at hidx hparse hst hmono hset hplen hpz
  rw [← hL]
  have hok : ∀ k, Sha.okAt L k = (decide (Sha.unhex (L.getD (2 * k) 0).toNat < 16) && decide (Sha.unhex (L.getD (2 * k + 1) 0).toNat < 16)) := fun k => rfl
  have hpa : ∀ k, Sha.pAt L k = UInt8.ofNat (16 * Sha.unhex (L.getD (2 * k) 0).toNat + Sha.unhex (L.getD (2 * k + 1) 0).toNat) := fun k => rfl
  have hinf0 := Lib.hid (dig_info (l := List.replicate 32 0) (by simp))
  have hinfP := Lib.hid (dig_info (hplen 32 (Nat.le_refl _)))
  have hdig := Lib.hid place_any
  clear hL hsl
  replace hidx := Lib.hid hidx
  replace hparse := Lib.hid hparse
  replace hst := Lib.hid hst
  replace hmono := Lib.hid hmono
  replace hset := Lib.hid hset
  replace hplen := Lib.hid hplen
  replace hpz := Lib.hid hpz
  replace hok := Lib.hid hok
  replace hpa := Lib.hid hpa
  go_enter Try.func40, Try.ntmps40
  go_wp2_with (refine alloc_new rfl 28 rfl (bv (List.replicate 32 0)).toArray (by kernel_rfl) ?_)
  intro w1 hd hs1
  have hdl := blk_lt hd
  replace hd := Lib.hid hd
  replace hs1 := Lib.hid hs1
  go_wp2_with (refine alloc_new rfl 28 rfl (bv (List.replicate 32 0)).toArray (by kernel_rfl) ?_; intro w2 hd2 hs2; rw [← hpz.out] at hd2; have hd3 := (hs2.block _ hdl).trans hd.out; have hdl2 := blk_lt hd2; replace hd2 := Lib.hid hd2; replace hd3 := Lib.hid hd3; replace hs2 := Lib.hid hs2)
  go_loopw [5] (fun i wr => ∃ k : Nat, k ≤ 32 ∧ i = .int .i64 k ∧ Sha.okTo L k = true ∧ wr.heap[w1.heap.size]? = some (.cells (bv (Sha.pPart L k)).toArray 28 (0, 0)) ∧ Keep (· = w1.heap.size) w2 wr) (fun i _ => 32 - (intOf i).toNat)
  case atStart => exact ⟨0, by omega, rfl, rfl, hd2.out, Keep.refl⟩
  case round =>
    obtain ⟨k, hk, rfl, hokk, hb, hkp⟩ := hrel
    have hdr := (hkp.block _ (Nat.lt_trans hdl hdl2) (by omega)).trans hd3.out
    have hsr : Same w wr := (hs1.out.trans hs2.out).keep hkp (fun x hx hv => by omega)
    replace hdr := Lib.hid hdr
    replace hsr := Lib.hid hsr
    by_cases hlt : k < 32
    · have i1 := hidx.out (2 * k) (by omega)
      have i2 := hidx.out (2 * k + 1) (by omega)
      have p0 : 0 ≤ 2 * (k : Int) := by omega
      have p1 : 2 * (k : Int) < 64 := by omega
      have p2 : 0 ≤ 2 * (k : Int) + 1 := by omega
      have p3 : 2 * (k : Int) + 1 < 64 := by omega
      have n0 : (2 * (k : Int)).toNat = 2 * k := by omega
      have n1 : (2 * (k : Int) + 1).toNat = 2 * k + 1 := by omega
      have hst1 := hst.out k hlt
      have hm1 := hmono.out (k + 1) (by omega)
      have hset1 := hset.out k hlt
      have hd1 := hdig.out (L.getD (2 * k) 0).toNat (L.getD (2 * k) 0).toNat_lt
      have hd2 := hdig.out (L.getD (2 * k + 1) 0).toNat (L.getD (2 * k + 1) 0).toNat_lt
      rw [hok.out k, hokk, Bool.true_and] at hst1
      rw [hpa.out k] at hset1
      obtain ⟨c1, hc1⟩ : ∃ c, c = L.getD (2 * k) 0 := ⟨_, rfl⟩
      obtain ⟨c2, hc2⟩ : ∃ c, c = L.getD (2 * k + 1) 0 := ⟨_, rfl⟩
      rw [← hc1, ← hc2] at hst1 hset1
      rw [← hc1] at i1 hd1
      rw [← hc2] at i2 hd2
      have u1l := Sha.unhex_le c1.toNat
      have u2l := Sha.unhex_le c2.toNat
      obtain ⟨u1, hu1⟩ : ∃ u, u = Sha.unhex c1.toNat := ⟨_, rfl⟩
      obtain ⟨u2, hu2⟩ : ∃ u, u = Sha.unhex c2.toNat := ⟨_, rfl⟩
      rw [← hu1, ← hu2] at hst1 hset1
      rw [← hu1] at hd1 u1l
      rw [← hu2] at hd2 u2l
      have cz := dig_cell hb (j := k) (by rw [hplen.out k hk]; exact hlt)
      have fz := blk_frozen hb k
      clear hc1 hc2 hu1 hu2
      replace hb := Lib.hid hb
      replace hkp := Lib.hid hkp
      replace hokk := Lib.hid hokk
      replace hd1 := Lib.hid hd1
      replace hd2 := Lib.hid hd2
      by_cases hboth : u1 < 16 ∧ u2 < 16
      · obtain ⟨h1, h2⟩ := hboth
        have hok1 : Sha.okTo L (k + 1) = true := by rw [hst1]; simp [h1, h2]
        clear hst1 hm1
        replace hok1 := Lib.hid hok1
        replace hset1 := Lib.hid hset1
        have q0 : 0 ≤ (k : Int) := by omega
        have q1 : (k : Int) < 32 := by omega
        go_wp2_with fail
        refine (hd1.out _).mono ?_
        rintro e w2 ⟨rfl, rfl⟩
        go_wp2_with fail
        refine (hd2.out _).mono ?_
        rintro e w2 ⟨rfl, rfl⟩
        go_wp2
        go_roundw
        case rel =>
          have hv : ((UInt8.ofNat (16 * u1 + u2)).toNat : Int) = 16 * (u1 : Int) + (u2 : Int) := by rw [UInt8.toNat_ofNat']; omega
          rw [← hv]
          exact ⟨k + 1, by omega, by go_num, hok1.out, (blk_set hb.out).trans (by rw [hset1.out]), hkp.out.trans (Keep.setCell (p := (· = w1.heap.size)) _ rfl) (fun _ _ h => h)⟩
        case measure => simp [intOf]; omega
      · have hz : Sha.parse L = (List.replicate 32 0, 11) := by
          rw [hparse.out, hm1 (by rw [hst1]; simp; omega)]
          rfl
        clear hst1 hm1 hset1
        replace hz := Lib.hid hz
        have hcase : 15 < u1 ∨ u1 ≤ 15 ∧ 15 < u2 := by omega
        clear hboth
        rcases hcase with h1 | ⟨h1, h2⟩
        all_goals
          go_wp2_with fail
          refine (hd1.out _).mono ?_
          rintro e w2 ⟨rfl, rfl⟩
          go_wp2_with fail
          refine (hd2.out _).mono ?_
          rintro e w2 ⟨rfl, rfl⟩
          go_wp2_with (first | (refine build_const (.agg (bv (List.replicate 32 0)).toArray) rfl (ty := 28) rfl (by kernel_rfl) ?_) | (refine store_row rfl _ _ _ rfl w.heap.size _ rfl rfl _ _ hdr.out hinf0.out rfl (by simpa using bv_cell) ?_; intro w9 hb9 hk9; replace hb9 := Lib.hid hb9; replace hk9 := Lib.hid hk9))
          rw [hz.out]
          refine bodyPost_ret (v := .tuple #[.agg (bv (List.replicate 32 0)).toArray, .int .i64 11]) (results_row2 (p := 2) (q := 3) (ty := 28) rfl _ _ w.heap.size _ _ _ _ _ rfl rfl hb9.out Try.underlying28 rfl hinf0.out) rfl ?_
          exact ⟨rfl, hsr.out.keep hk9.out (fun x hx hv => by omega)⟩
    · obtain rfl : k = 32 := by omega
      have hz : Sha.parse L = (Sha.pPart L 32, 0) := by
        rw [hparse.out, hokk]
        rfl
      replace hz := Lib.hid hz
      replace hb := Lib.hid hb
      clear hokk hlt hkp
      go_wp2_with (first | (refine load_row rfl _ _ rfl w1.heap.size rfl _ _ _ _ hb.out Try.underlying28 rfl hinfP.out ?_) | (refine store_row rfl _ _ _ rfl w.heap.size _ rfl rfl _ _ hdr.out hinfP.out rfl (by simpa using bv_cell) ?_; intro w9 hb9 hk9; replace hb9 := Lib.hid hb9; replace hk9 := Lib.hid hk9))
      rw [hz.out]
      refine bodyPost_ret (v := .tuple #[.agg (bv (Sha.pPart L 32)).toArray, .int .i64 0]) (results_row2 (p := 2) (q := 3) (ty := 28) rfl _ _ w.heap.size _ _ _ _ _ rfl rfl hb9.out Try.underlying28 rfl hinfP.out) rfl ?_
      exact ⟨rfl, hsr.out.keep hk9.out (fun x hx hv => by omega)⟩
theorem rparse_any (s : ByteArray) (hm : s.size ≤ 140737488355328) (w : World) :
    Calls Try.prog 40 #[.string s] w fun e w' => e = .returned (.tuple #[.agg (bv (Sha.parse s.data.toList).1).toArray, .int .i64 (Sha.parse s.data.toList).2]) ∧ Same w w' := by
  by_cases hs : s.size = 64
  · exact rparse_64 s hs w
  · have hz : Sha.parse s.data.toList = (List.replicate 32 0, 11) := by
      unfold Sha.parse
      rw [if_neg (fun h => hs h.1)]
    rw [hz]
    exact rparse_bad s hs hm w
set_option maxRecDepth 100000 in
set_option maxHeartbeats 1600000 in
theorem rtext_any (l : List UInt8) (hl : l.length = 32) (w : World) :
    Calls Try.prog 41 #[.agg (bv l).toArray] w fun e w' => e = .returned (.string ⟨(Sha.text l).toArray⟩) ∧ Same w w' := by
  have hinf := Lib.hid (dig_info hl)
  go_enter Try.func41, Try.ntmps41
  go_wp2_with (refine box_row rfl _ _ rfl _ rfl hinf.out ?_; intro w0 hbx hs0; have hb0 := blk_lt hbx; replace hbx := Lib.hid hbx; replace hs0 := Lib.hid hs0)
  go_loopw [3, 4] (fun v i wr => ∃ k : Nat, k ≤ 32 ∧ i = .int .i64 k ∧ Own wr w0.heap.size 5 1 v (2 * k) (bv (Sha.text (l.take k))) ∧ Same w0 wr) (fun _ i _ => 32 - (intOf i).toNat)
  case atStart => exact ⟨0, by omega, rfl, Own.nil _ _ _ _, Same.refl⟩
  case round =>
    obtain ⟨k, hk, rfl, ho, hs⟩ := hrel
    by_cases hlt : k < 32
    · have hkl := Sha.text_take l k (by omega)
      have cc := dig_cell ((hs.block _ hb0).trans hbx.out) (j := k) (by omega)
      obtain ⟨c, hc⟩ : ∃ c, c = (l.getD k 0).toNat := ⟨_, rfl⟩
      rw [← hc] at hkl cc
      have hc2 : c < 256 := by rw [hc]; exact (l.getD k 0).toNat_lt
      clear hc
      obtain ⟨x, hx⟩ : ∃ x, x = Sha.hexd (c / 16) := ⟨_, rfl⟩
      obtain ⟨y, hy⟩ : ∃ y, y = Sha.hexd (c % 16) := ⟨_, rfl⟩
      have h1 := hex_get (c / 16) (by omega)
      have h2 := hex_get (c % 16) (by omega)
      rw [← hx] at h1 hkl
      rw [← hy] at h2 hkl
      clear hx hy
      have q0 : 0 ≤ (k : Int) := by omega
      have q1 : (k : Int) < 32 := by omega
      replace h1 := Lib.hid h1
      replace h2 := Lib.hid h2
      replace hkl := Lib.hid hkl
      replace hs := Lib.hid hs
      replace ho := Lib.hid ho
      replace cc := Lib.hid cc
      go_wp2
      refine wp_region_tails (by kernel_rfl) [(9, 0), (10, 1), (11, 2), (12, 3), (13, 4), (14, 5), (15, 6), (16, 7), (17, 8), (18, 9), (19, 10), (20, 11)] Same (Same _) [isV u3, isV (.int .i64 (k : Int)), isV (.pointer (some ⟨w.heap.size, k, none⟩)), isV (.int .u8 (c : Int)), isV (.int .u8 ((c / 16 : Nat) : Int)), isV (.int .u8 (x.toNat : Int)), isV (.int .i64 (k : Int)), isV (.pointer (some ⟨w.heap.size, k, none⟩)), isV (.int .u8 (c : Int)), isV (.int .u8 ((c % 16 : Nat) : Int)), isV (.int .u8 (y.toNat : Int)), isB [x, y]] Same.refl.drew (fun _ _ h k => h.trans k) (by simp [isV_stable, isB_stable, isAny_stable]) (by decide) (l := [_, _, _, _, _, _, _, _, _, _, _, _]) rfl (by decide) (by kernel_rfl) ?_ ?_
      · refine ⟨?_, ?_, ?_, ?_, ?_, ?_, ?_, ?_, ?_, ?_, ?_, ?_, trivial⟩
        all_goals (intro u wx hI hp; simp only [mkAct, List.foldl_cons, List.foldl_nil, List.setIfInBounds_toArray, List.set_cons_succ, List.set_cons_zero])
        · -- operation 0
          go_wp2
          refine stq_v rfl Same.refl ?_
          first | (simp only [mkAct, List.foldl_cons, List.foldl_nil, List.setIfInBounds_toArray, List.set_cons_succ, List.set_cons_zero, upd, reduceIte, Nat.reduceEqDiff, Nat.reduceAdd, str]; done) | (simp [mkAct, upd, str, *]; done)
        · -- operation 1
          go_wp2
          refine stq_v rfl Same.refl ?_
          first | (simp only [mkAct, List.foldl_cons, List.foldl_nil, List.setIfInBounds_toArray, List.set_cons_succ, List.set_cons_zero, upd, reduceIte, Nat.reduceEqDiff, Nat.reduceAdd, str]; done) | (simp [mkAct, upd, str, *]; done)
        · -- operation 2
          obtain ⟨f1, -⟩ := hp
          replace f1 : u 1 = (.int .i64 (k : Int)) := f1
          try simp only [f1, str]
          go_wp2
          refine stq_v rfl Same.refl ?_
          first | (simp only [mkAct, List.foldl_cons, List.foldl_nil, List.setIfInBounds_toArray, List.set_cons_succ, List.set_cons_zero, upd, reduceIte, Nat.reduceEqDiff, Nat.reduceAdd, f1, str]; done) | (simp [mkAct, upd, f1, str, *]; done)
        · -- operation 3
          obtain ⟨f2, -⟩ := hp
          replace f2 : u 2 = (.pointer (some ⟨w.heap.size, k, none⟩)) := f2
          try simp only [f2, str]
          have cx := hI.cell cc.out
          go_wp2
          refine stq_v rfl Same.refl ?_
          first | (simp only [mkAct, List.foldl_cons, List.foldl_nil, List.setIfInBounds_toArray, List.set_cons_succ, List.set_cons_zero, upd, reduceIte, Nat.reduceEqDiff, Nat.reduceAdd, f2, str]; done) | (simp [mkAct, upd, f2, str, *]; done)
        · -- operation 4
          obtain ⟨f3, -⟩ := hp
          replace f3 : u 3 = (.int .u8 (c : Int)) := f3
          try simp only [f3, str]
          go_wp2
          refine stq_v rfl Same.refl ?_
          first | (simp only [mkAct, List.foldl_cons, List.foldl_nil, List.setIfInBounds_toArray, List.set_cons_succ, List.set_cons_zero, upd, reduceIte, Nat.reduceEqDiff, Nat.reduceAdd, f3, str]; done) | (simp [mkAct, upd, f3, str, *]; done)
        · -- operation 5
          obtain ⟨f4, -⟩ := hp
          replace f4 : u 4 = (.int .u8 ((c / 16 : Nat) : Int)) := f4
          try simp only [f4, str]
          have h1 := h1.out
          go_wp2
          refine stq_v rfl Same.refl ?_
          first | (simp only [mkAct, List.foldl_cons, List.foldl_nil, List.setIfInBounds_toArray, List.set_cons_succ, List.set_cons_zero, upd, reduceIte, Nat.reduceEqDiff, Nat.reduceAdd, f4, str]; done) | (simp [mkAct, upd, f4, str, *]; done)
        · -- operation 6
          go_wp2
          refine stq_v rfl Same.refl ?_
          first | (simp only [mkAct, List.foldl_cons, List.foldl_nil, List.setIfInBounds_toArray, List.set_cons_succ, List.set_cons_zero, upd, reduceIte, Nat.reduceEqDiff, Nat.reduceAdd, str]; done) | (simp [mkAct, upd, str, *]; done)
        · -- operation 7
          obtain ⟨f6, -⟩ := hp
          replace f6 : u 6 = (.int .i64 (k : Int)) := f6
          try simp only [f6, str]
          go_wp2
          refine stq_v rfl Same.refl ?_
          first | (simp only [mkAct, List.foldl_cons, List.foldl_nil, List.setIfInBounds_toArray, List.set_cons_succ, List.set_cons_zero, upd, reduceIte, Nat.reduceEqDiff, Nat.reduceAdd, f6, str]; done) | (simp [mkAct, upd, f6, str, *]; done)
        · -- operation 8
          obtain ⟨f7, -⟩ := hp
          replace f7 : u 7 = (.pointer (some ⟨w.heap.size, k, none⟩)) := f7
          try simp only [f7, str]
          have cx := hI.cell cc.out
          go_wp2
          refine stq_v rfl Same.refl ?_
          first | (simp only [mkAct, List.foldl_cons, List.foldl_nil, List.setIfInBounds_toArray, List.set_cons_succ, List.set_cons_zero, upd, reduceIte, Nat.reduceEqDiff, Nat.reduceAdd, f7, str]; done) | (simp [mkAct, upd, f7, str, *]; done)
        · -- operation 9
          obtain ⟨f8, -⟩ := hp
          replace f8 : u 8 = (.int .u8 (c : Int)) := f8
          try simp only [f8, str]
          go_wp2
          refine stq_v rfl Same.refl ?_
          first | (simp only [mkAct, List.foldl_cons, List.foldl_nil, List.setIfInBounds_toArray, List.set_cons_succ, List.set_cons_zero, upd, reduceIte, Nat.reduceEqDiff, Nat.reduceAdd, f8, str]; done) | (simp [mkAct, upd, f8, str, *]; done)
        · -- operation 10
          obtain ⟨f9, -⟩ := hp
          replace f9 : u 9 = (.int .u8 ((c % 16 : Nat) : Int)) := f9
          try simp only [f9, str]
          have h2 := h2.out
          go_wp2
          refine stq_v rfl Same.refl ?_
          first | (simp only [mkAct, List.foldl_cons, List.foldl_nil, List.setIfInBounds_toArray, List.set_cons_succ, List.set_cons_zero, upd, reduceIte, Nat.reduceEqDiff, Nat.reduceAdd, f9, str]; done) | (simp [mkAct, upd, f9, str, *]; done)
        · -- operation 11
          obtain ⟨f5, f10, -⟩ := hp
          replace f5 : u 5 = (.int .u8 (x.toNat : Int)) := f5
          replace f10 : u 10 = (.int .u8 (y.toNat : Int)) := f10
          try simp only [f5, f10, str]
          go_wp2
          refine stq_x (.slice (some ⟨wx.heap.size, 0, none⟩) 2 2) rfl ⟨_, _, rfl, sl_boxB ([x, y]) (by unfold maxLen; simp)⟩ (Same.refl.alloc _) ?_
          first | (simp only [mkAct, List.foldl_cons, List.foldl_nil, List.setIfInBounds_toArray, List.set_cons_succ, List.set_cons_zero, upd, reduceIte, Nat.reduceEqDiff, Nat.reduceAdd, f5, f10, str]; done) | (simp [mkAct, upd, f5, f10, str, *]; done)
      · intro u wx hI hR
        obtain ⟨r0, r1, r2, r3, r4, r5, r6, r7, r8, r9, r10, r11, -⟩ := hR
        replace r0 : u 0 = u3 := r0
        replace r1 : u 1 = (.int .i64 (k : Int)) := r1
        replace r2 : u 2 = (.pointer (some ⟨w.heap.size, k, none⟩)) := r2
        replace r3 : u 3 = (.int .u8 (c : Int)) := r3
        replace r4 : u 4 = (.int .u8 ((c / 16 : Nat) : Int)) := r4
        replace r5 : u 5 = (.int .u8 (x.toNat : Int)) := r5
        replace r6 : u 6 = (.int .i64 (k : Int)) := r6
        replace r7 : u 7 = (.pointer (some ⟨w.heap.size, k, none⟩)) := r7
        replace r8 : u 8 = (.int .u8 (c : Int)) := r8
        replace r9 : u 9 = (.int .u8 ((c % 16 : Nat) : Int)) := r9
        replace r10 : u 10 = (.int .u8 (y.toNat : Int)) := r10
        obtain ⟨ao11, c11, r11, hsl11⟩ := r11
        simp only [mkAct, List.foldl_cons, List.foldl_nil, List.setIfInBounds_toArray, List.set_cons_succ, List.set_cons_zero]
        try simp only [str, r0, r1, r2, r3, r4, r5, r6, r7, r8, r9, r10, r11]
        have ho2 := ho.out.same hI
        have hs2 := hs.out.trans hI
        have hsz := hs2.size
        go_wp2_with (at_builtin; refine append_sl rfl _ _ rfl byT ho2 rfl rfl hsl11 bv_cell hsz (by simp; omega) (by simp; omega) ?_; intro v' w2 hown2 hk2 hat)
        rw [← bv_append, ← hkl.out] at hown2
        have hs3 : Same w0 w2 := hs2.keep hk2 (fun x hx hv => by have := ho2.base x hv; omega)
        clear hk2 hat ho2 hs2
        go_wp2
        go_roundw
        case rel => exact ⟨k + 1, by omega, by go_num, by simpa [Nat.mul_add] using hown2, hs3⟩
        case measure => simp [intOf]; omega
    · obtain rfl : k = 32 := by omega
      rw [List.take_of_length_le (by omega)] at ho
      obtain ⟨ao, c, rfl, hsl⟩ := ho.sl
      go_wp2_with (refine conv_string rfl _ rfl byT u8T strT rfl hsl ?_)
      go_ret
      exact ⟨rfl, hs0.out.trans hs⟩
end Go.Proofs.Yteokeidclgfgnaa
