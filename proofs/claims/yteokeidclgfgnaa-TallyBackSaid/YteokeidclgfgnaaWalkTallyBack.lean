/-
  The walk of the law TallyBack: what was put is read as it was.
-/
-- @law ints, rep strs, bytes
import Derived.Test.YteokeidclgfgnaaLives1
import Derived.Test.YteokeidclgfgnaaBag
import Derived.Test.YteokeidclgfgnaaAdd
import Derived.Test.YteokeidclgfgnaaRd
import Derived.Deep.DeepCutAuto
namespace Go.Proofs.Yteokeidclgfgnaa
open Go Go.RowKit
set_option linter.unusedSimpArgs false
set_option linter.unusedVariables false

/-- How much texts come to, each one more. -/
def tot (T : List ByteArray) (k : Nat) : Nat := ((T.take k).map fun s => 1 + s.size).sum
theorem take_next {α : Type} {L : List α} {k : Nat} (h : k < L.length) : L.take (k + 1) = L.take k ++ [L[k]] := List.take_succ_eq_append_getElem h
theorem tot_succ {T : List ByteArray} {k : Nat} (h : k < T.length) : tot T (k + 1) = tot T k + (1 + T[k].size) := by
  unfold tot
  rw [take_next h, List.map_append, List.sum_append]
  simp only [List.map_cons, List.map_nil, List.sum_cons, List.sum_nil, Nat.add_zero]
def encN (L : List Int) : List UInt8 := (L.map Num.putI).flatten
def encT (T : List ByteArray) : List UInt8 := (T.map fun s => Num.putT s.data.toList).flatten
theorem encN_next {L : List Int} {k : Nat} (h : k < L.length) : encN (L.take (k + 1)) = encN (L.take k) ++ Num.putI L[k] := by
  unfold encN
  rw [take_next h, List.map_append, List.flatten_append]
  simp only [List.map_cons, List.map_nil, List.flatten_cons, List.flatten_nil, List.append_nil]
theorem encN_drop {L : List Int} {k : Nat} (h : k < L.length) : encN (L.drop k) = Num.putI L[k] ++ encN (L.drop (k + 1)) := by
  unfold encN
  rw [List.drop_eq_getElem_cons h, List.map_cons, List.flatten_cons]
theorem encT_next {T : List ByteArray} {k : Nat} (h : k < T.length) : encT (T.take (k + 1)) = encT (T.take k) ++ Num.putT T[k].data.toList := by
  unfold encT
  rw [take_next h, List.map_append, List.flatten_append]
  simp only [List.map_cons, List.map_nil, List.flatten_cons, List.flatten_nil, List.append_nil]
theorem encT_drop {T : List ByteArray} {k : Nat} (h : k < T.length) : encT (T.drop k) = Num.putT T[k].data.toList ++ encT (T.drop (k + 1)) := by
  unfold encT
  rw [List.drop_eq_getElem_cons h, List.map_cons, List.flatten_cons]
theorem putI_le {n : Int} (h : n ≤ 9223372036854775807) : (Num.putI n).length ≤ 9 := by
  rcases Int.lt_or_le n 0 with h' | h'
  · rw [Num.putI_neg h']
    simp
  · obtain ⟨m, rfl⟩ := Int.eq_ofNat_of_zero_le h'
    rw [Num.putI_nat]
    exact Num.putN_le (by omega)
theorem encN_le {L : List Int} (h : ∀ n ∈ L, n ≤ 9223372036854775807) : (encN L).length ≤ 9 * L.length := by
  induction L with
  | nil => simp [encN]
  | cons x L ih =>
    have h1 := putI_le (h x (List.mem_cons_self ..))
    have h2 := ih fun y hy => h y (List.mem_cons_of_mem _ hy)
    simp only [encN, List.map_cons, List.flatten_cons, List.length_append, List.length_cons] at h2 ⊢
    omega
theorem encT_le (T : List ByteArray) (h : tot T T.length ≤ 5000) : ∀ k, k ≤ T.length → (encT (T.take k)).length ≤ 9 * tot T k ∧ tot T k ≤ 5000 := by
  have hmono : ∀ k, k ≤ T.length → tot T k ≤ tot T T.length := by
    intro k hk
    have e : ∀ d, k + d ≤ T.length → tot T k ≤ tot T (k + d) := by
      intro d
      induction d with
      | zero => intro _; exact Nat.le_refl _
      | succ d ih =>
        intro hd
        have h1 := tot_succ (T := T) (k := k + d) (by omega)
        rw [← Nat.add_assoc, h1]
        exact Nat.le_trans (ih (by omega)) (Nat.le_add_right _ _)
    have := e (T.length - k) (by omega)
    rwa [Nat.add_sub_cancel' hk] at this
  intro k
  induction k with
  | zero => intro _; simp [encT, tot]
  | succ k ih =>
    intro hk
    obtain ⟨h1, h2⟩ := ih (by omega)
    have h3 := hmono (k + 1) hk
    rw [tot_succ (by omega)] at h3 ⊢
    rw [encT_next (by omega), List.length_append]
    have h4 : (Num.putT T[k].data.toList).length ≤ 9 + T[k].size := by
      have hz : T[k].data.toList.length = T[k].size := rfl
      rw [Num.putT, List.length_append, hz]
      have := Num.putN_le (n := T[k].size) (by omega)
      omega
    omega
/-- A number is read as it was put. -/
theorem rNum_put (n : Nat) (rest : List UInt8) (h : n ≤ 9223372036854775807) : Num.rNum (Num.putI n ++ rest, 0) n = (n, (rest, 0)) := by
  rw [Num.putI_nat, Num.rNum, if_neg (by simp), Num.numAt_put n rest h]
  simp
/-- A text is read as it was put. -/
theorem rText_put (s : List UInt8) (rest : List UInt8) (h : s.length ≤ 9223372036854775807) : Num.rText (Num.putT s ++ rest, 0) s.length = (s, (rest, 0)) := by
  rw [Num.rText, if_neg (by simp), Num.putT, List.append_assoc, Num.numAt_put s.length (s ++ rest) h]
  simp only [ne_eq, not_true, if_false]
  rw [if_neg (by omega), if_neg (by rw [List.length_append, List.length_append]; omega)]
  have e1 : (Num.putN s.length ++ (s ++ rest)).drop (Num.putN s.length).length = s ++ rest := List.drop_left
  have e2 : (Num.putN s.length ++ (s ++ rest)).drop ((Num.putN s.length).length + s.length) = rest := by rw [← List.append_assoc, ← List.length_append, List.drop_left]
  rw [e1, e2, List.take_left]
/-- The walk's first loop told: it stops behind all texts, or where it has too much. -/
def Counted (T : List ByteArray) (n : Nat) : Prop := n ≤ 5000 ∧ n = tot T T.length ∨ 5000 < n ∧ n ≤ 5001 ∧ 5000 < tot T T.length
theorem tot_mono (T : List ByteArray) (k : Nat) (hk : k ≤ T.length) : tot T k ≤ tot T T.length := by
  have e : ∀ d, k + d ≤ T.length → tot T k ≤ tot T (k + d) := by
    intro d
    induction d with
    | zero => intro _; exact Nat.le_refl _
    | succ d ih =>
      intro hd
      have h1 := tot_succ (T := T) (k := k + d) (by omega)
      rw [← Nat.add_assoc, h1]
      exact Nat.le_trans (ih (by omega)) (Nat.le_add_right _ _)
  have := e (T.length - k) (by omega)
  rwa [Nat.add_sub_cancel' hk] at this
set_option maxRecDepth 100000 in
set_option maxHeartbeats 3200000 in
theorem walk_TallyBack (w : World) (io : Option Addr) (il ic : Nat) (ns : List Int) (hns : Sl w 1 io il ic (iv ns)) (hnw : ∀ n ∈ ns, (Lit.int .i64 n).wf = true) (a : (Option Addr × Nat × Nat) × List ByteArray) (ha : Sl w 1 a.1.1 a.1.2.1 a.1.2.2 (a.2.map Value.string) ∧ (∀ s ∈ a.2, s.size ≤ 140737488351232) ∧ a.1.2.2 * 16 ≤ 140737488351232) (ao : Option Addr) (len cap : Nat) (tl : List UInt8) (htl : Sl w 1 ao len cap (bv tl)) :
    Calls Try.prog 6 #[.slice io il ic, .slice a.1.1 a.1.2.1 a.1.2.2, .slice ao len cap] w fun e w' => e = .returned (.bool true) ∧ Same w w' := by
  obtain ⟨⟨so, sl, sc⟩, T⟩ := a
  obtain ⟨hT, hTm, hTb⟩ := ha
  simp only at hT hTm hTb ⊢
  have hTl : T.length = sl := by have := hT.len; rw [List.length_map] at this; omega
  have hTc := hT.cap
  have hlives := Lib.hid lives1
  have hadd := Lib.hid add_any
  replace hns := Lib.hid hns
  replace hnw := Lib.hid hnw
  replace hT := Lib.hid hT
  replace hTm := Lib.hid hTm
  replace htl := Lib.hid htl
  replace hTl := Lib.hid hTl
  go_enter Try.func6, Try.ntmps6
  go_wp2
  go_loop [7, 8] (fun n i => ∃ (k m : Nat), k ≤ sl ∧ i = .int .i64 k ∧ n = .int .i64 m ∧ (m ≤ 5000 ∧ m = tot T k ∨ 5000 < m ∧ m ≤ 5001 ∧ 5000 < tot T k)) (fun _ i => sl - (intOf i).toNat)
  case atStart => exact ⟨0, 0, by omega, rfl, rfl, .inl ⟨by omega, rfl⟩⟩
  case round =>
    obtain ⟨k, m, hk, rfl, rfl, hm⟩ := hrel
    by_cases hlt : k < sl ∧ m ≤ 5000
    · -- [[A
      obtain ⟨hlt, hm5⟩ := hlt
      have hm := (hm.resolve_right (by omega)).2
      have hkT : k < T.length := by rw [hTl.out]; exact hlt
      obtain ⟨bk, off, rfl, hbk, hcell⟩ := hT.out.at (by intro h; rw [List.map_eq_nil_iff] at h; rw [h] at hkT; simp at hkT)
      have cc := hcell k (.string T[k]) (by simp [hkT])
      have hsz := hTm.out T[k] (List.getElem_mem hkT)
      have hsu := tot_succ hkT
      obtain ⟨s, hs⟩ : ∃ s, s = T[k] := ⟨_, rfl⟩
      rw [← hs] at cc hsz hsu
      rw [← hm] at hsu
      clear hs hcell hm
      have q0 : 0 ≤ (k : Int) := by omega
      have q1 : (k : Int) < (sl : Int) := by omega
      have h1 := hadd.out m (1 + s.size) 5000 w (by omega) (by omega) (by omega)
      rw [show ((1 + s.size : Nat) : Int) = 1 + (s.size : Int) from by omega] at h1
      have h2 : addUp m (1 + s.size) 5000 ≤ 5000 ∧ addUp m (1 + s.size) 5000 = tot T (k + 1) ∨ 5000 < addUp m (1 + s.size) 5000 ∧ addUp m (1 + s.size) 5000 ≤ 5001 ∧ 5000 < tot T (k + 1) := by
        rw [hsu]
        unfold addUp
        split <;> omega
      obtain ⟨m2, hm2⟩ : ∃ x, x = addUp m (1 + s.size) 5000 := ⟨_, rfl⟩
      rw [← hm2] at h1 h2
      clear hsu hm2
      replace h2 := Lib.hid h2
      replace h1 := Lib.hid h1
      go_wp2_with fail
      refine (h1.out).mono ?_
      rintro e w2 ⟨rfl, rfl⟩
      go_wp2
      go_round
      case rel => exact ⟨k + 1, m2, by omega, by go_num, rfl, h2.out⟩
      case measure => simp [intOf]; omega
      -- A]]
    · by_cases hok : il ≤ 500 ∧ m ≤ 5000 ∧ len ≤ 5000
      · obtain ⟨ho1, ho2, ho3⟩ := hok
        obtain rfl : k = sl := by omega
        have htot := (hm.resolve_right (by omega)).2
        rw [← hTl.out] at htot
        have htot5 : tot T T.length ≤ 5000 := by omega
        clear htot hm hlt
        have hnl : ns.length = il := by have := hns.out.len; rw [iv_length] at this; omega
        have hnc := hns.out.cap
        have hnb : ∀ n ∈ ns, n ≤ 9223372036854775807 := fun n hn => by have := bounds_i64 (hnw.out n hn); omega
        have hel := encN_le hnb
        rw [hnl] at hel
        have hTe := encT_le T htot5
        have hkT : T.length = k := hTl.out
        replace hnl := Lib.hid hnl
        replace hnb := Lib.hid hnb
        replace hTe := Lib.hid hTe
        replace hkT := Lib.hid hkT
        clear hTl hadd
        go_wp2
        go_loopw [9, 52] (fun v i wr => ∃ j : Nat, j ≤ il ∧ i = .int .i64 j ∧ Bag wr w.heap.size v (encN (ns.take j)) ∧ (encN (ns.take j)).length ≤ 9 * j ∧ Same w wr) (fun _ i _ => il - (intOf i).toNat)
        case atStart => exact ⟨0, by omega, rfl, by simpa [encN] using Bag.nil w w.heap.size, by simp [encN], Same.refl⟩
        case round =>
          obtain ⟨j, hj, rfl, hbag, hbl, hs⟩ := hrel
          by_cases hlt : j < il
          · -- [[B
            have hjn : j < ns.length := by rw [hnl.out]; exact hlt
            obtain ⟨bk, off, rfl, hbk, hcell⟩ := hns.out.at (by intro h; rw [iv, List.map_eq_nil_iff] at h; rw [h] at hjn; simp at hjn)
            have cc := hs.cell (hcell j _ (iv_get hjn))
            have hx := hnb.out _ (List.getElem_mem hjn)
            have hnx := encN_next hjn
            obtain ⟨x, hxx⟩ : ∃ x, x = ns[j] := ⟨_, rfl⟩
            rw [← hxx] at cc hx hnx
            have hpl := putI_le hx
            have q0 : 0 ≤ (j : Int) := by omega
            have q1 : (j : Int) < (il : Int) := by omega
            have hsz := hs.size
            have hput := Lib.hid (put_bag w.heap.size _ _ x wr hbag hsz (Nat.le_trans hbl (by omega)) hx)
            clear hcell hxx
            replace hnx := Lib.hid hnx
            replace hs := Lib.hid hs
            go_wp2_with fail
            refine (hput.out).mono ?_
            rintro e w2 ⟨v2, rfl, hbag2, hs2⟩
            rw [← hnx.out] at hbag2
            have hbl2 : (encN (ns.take (j + 1))).length ≤ 9 * (j + 1) := by rw [hnx.out, List.length_append]; omega
            go_wp2
            go_roundw
            case rel => exact ⟨j + 1, by omega, by go_num, hbag2, hbl2, hs.out.trans hs2⟩
            case measure => simp [intOf]; omega
            -- B]]
          · obtain rfl : j = il := by omega
            have eN : ns.take j = ns := List.take_of_length_le (by rw [hnl.out]; exact Nat.le_refl _)
            rw [eN] at hbag
            clear hlt hbl eN
            replace hbag := Lib.hid hbag
            replace hs := Lib.hid hs
            go_wp2
            go_loopw [9, 62] (fun v i wx => ∃ q : Nat, q ≤ k ∧ i = .int .i64 q ∧ Bag wx w.heap.size v (encN ns ++ encT (T.take q)) ∧ Same w wx) (fun _ i _ => k - (intOf i).toNat)
            case atStart => exact ⟨0, by omega, rfl, by simpa [encT] using hbag.out, hs.out⟩
            case round =>
              clear hbag hs
              obtain ⟨q, hq, rfl, hbag, hs⟩ := hrel
              by_cases hlt : q < k
              · -- [[C
                have hqT : q < T.length := by rw [hkT.out]; exact hlt
                obtain ⟨bk, off, rfl, hbk, hcell⟩ := hT.out.at (by intro h; rw [List.map_eq_nil_iff] at h; rw [h] at hqT; simp at hqT)
                have cc := hs.cell (hcell q (.string T[q]) (by simp [hqT]))
                have hz := hTm.out _ (List.getElem_mem hqT)
                have hnx := encT_next hqT
                have hle := hTe.out q (by omega)
                obtain ⟨s, hss⟩ : ∃ s, s = T[q] := ⟨_, rfl⟩
                rw [← hss] at cc hz hnx
                have q0 : 0 ≤ (q : Int) := by omega
                have q1 : (q : Int) < (k : Int) := by omega
                have hsz := hs.size
                have hz2 : s.size ≤ 40737488000000 := by
                  have h1 := tot_mono T (q + 1) (by omega)
                  have h2 := tot_succ hqT
                  rw [← hss] at h2
                  omega
                have hXl : (encN ns ++ encT (T.take q)).length ≤ 60000 := by rw [List.length_append]; omega
                obtain ⟨X, hX⟩ : ∃ X, X = encN ns ++ encT (T.take q) := ⟨_, rfl⟩
                rw [← hX] at hbag hXl
                replace hX := Lib.hid hX
                obtain ⟨bo, bc, rfl, hbsl, _⟩ := hbag
                have hput := Lib.hid (putText_any bo _ bc _ s wr hbsl (by omega) hz2)
                clear hcell hss hbsl hle
                replace hnx := Lib.hid hnx
                replace hs := Lib.hid hs
                go_wp2_with fail
                refine (hput.out).mono ?_
                rintro e w2 ⟨v2, rfl, ho2, hs2⟩
                have hbag2 := (Bag.own ho2).lower hsz
                rw [hX.out, List.append_assoc, ← hnx.out] at hbag2
                clear ho2
                go_wp2
                go_roundw
                case rel => exact ⟨q + 1, by omega, by go_num, hbag2, hs.out.trans hs2⟩
                case measure => simp [intOf]; omega
                -- C]]
              · obtain rfl : q = k := by omega
                have eT : T.take q = T := List.take_of_length_le (by rw [hkT.out]; exact Nat.le_refl _)
                rw [eT] at hbag
                clear hlt
                have hlE : (encN ns ++ encT T).length ≤ 60000 := by
                  have h1 := (hTe.out q (by rw [hkT.out]; exact Nat.le_refl _))
                  rw [eT] at h1
                  rw [List.length_append]
                  omega
                clear eT
                obtain ⟨Y, hY⟩ : ∃ Y, Y = encN ns ++ encT T := ⟨_, rfl⟩
                rw [← hY] at hbag hlE
                replace hY := Lib.hid hY
                have hsz := hs.size
                have htl2 := htl.out.same hs
                go_wp2_with (at_builtin; refine append_bag rfl _ _ rfl hbag rfl rfl htl2 hsz (by omega) ?_; intro ao' c' w3 hsl3 hk3)
                have hs3 : Same w w3 := hs.keep hk3 (fun x hx hv => by omega)
                have hread := Lib.hid (read_any ao' _ c' _ w3 hsl3 (by omega))
                clear hk3 htl2 hbag hs hsl3
                replace hs3 := Lib.hid hs3
                go_wp2_with fail
                refine (hread.out).mono ?_
                rintro e w4 ⟨rb, db, rfl, hr4, hrb, hdb, hs4⟩
                have hs04 : Same w w4 := hs3.out.trans hs4
                have hrbw : w.heap.size ≤ rb := Nat.le_trans hs3.out.size hrb
                rw [hY.out, List.append_assoc] at hr4
                clear hs4 hs3 hrb hdb
                replace hr4 := Lib.hid hr4
                replace hs04 := Lib.hid hs04
                go_wp2
                go_loopw [76] (fun i wx => ∃ d : Nat, d ≤ j ∧ i = .int .i64 d ∧ Rdr wx rb db (encN (ns.drop d) ++ (encT T ++ tl), 0) ∧ Keep (· = rb) w4 wx) (fun i _ => j - (intOf i).toNat)
                case atStart => exact ⟨0, by omega, rfl, by simpa using hr4.out, Keep.refl⟩
                case round =>
                  clear hr4
                  obtain ⟨d, hd, rfl, hr, hkp⟩ := hrel
                  by_cases hlt : d < j
                  · -- [[D
                    have hjn : d < ns.length := by rw [hnl.out]; exact hlt
                    obtain ⟨bk, off, rfl, hbk, hcell⟩ := hns.out.at (by intro h; rw [iv, List.map_eq_nil_iff] at h; rw [h] at hjn; simp at hjn)
                    have cc := hkp.cell (hs04.out.cell (hcell d _ (iv_get hjn))) (show ¬ bk = rb by omega)
                    have hx := hnb.out _ (List.getElem_mem hjn)
                    have hdr := encN_drop hjn
                    obtain ⟨x, hxx⟩ : ∃ x, x = ns[d] := ⟨_, rfl⟩
                    rw [← hxx] at cc hx hdr
                    rw [hdr, List.append_assoc] at hr
                    have q0 : 0 ≤ (d : Int) := by omega
                    have q1 : (d : Int) < (j : Int) := by omega
                    clear hcell hxx hdr
                    replace hkp := Lib.hid hkp
                    rcases Int.lt_or_le x 0 with hneg | hpos
                    · rw [Num.putI_neg hneg, List.nil_append] at hr
                      replace hr := Lib.hid hr
                      go_wp2
                      go_roundw
                      case rel => exact ⟨d + 1, by omega, by go_num, hr.out, hkp.out⟩
                      case measure => simp [intOf]; omega
                    · obtain ⟨n, rfl⟩ := Int.eq_ofNat_of_zero_le hpos
                      have hnum := num_any rb db _ (n : Int) wr hr
                      rw [rNum_put n _ (by omega)] at hnum
                      replace hnum := Lib.hid hnum
                      clear hr
                      go_wp2_with fail
                      refine (hnum.out).mono ?_
                      rintro e w5 ⟨rfl, hr5, hk5⟩
                      replace hr5 := Lib.hid hr5
                      replace hk5 := Lib.hid hk5
                      go_wp2
                      go_roundw
                      case rel => exact ⟨d + 1, by omega, by go_num, hr5.out, hkp.out.trans hk5.out (fun _ _ h => h)⟩
                      case measure => simp [intOf]; omega
                    -- D]]
                  · obtain rfl : d = j := by omega
                    have eN : ns.drop d = [] := List.drop_of_length_le (by rw [hnl.out]; exact Nat.le_refl _)
                    rw [eN] at hr
                    have hr2 : Rdr wr rb db (encT T ++ tl, 0) := hr
                    clear hr hlt eN
                    replace hr2 := Lib.hid hr2
                    replace hkp := Lib.hid hkp
                    go_wp2
                    go_loopw [92] (fun i wx => ∃ f : Nat, f ≤ q ∧ i = .int .i64 f ∧ Rdr wx rb db (encT (T.drop f) ++ tl, 0) ∧ Keep (· = rb) w4 wx) (fun i _ => q - (intOf i).toNat)
                    case atStart => exact ⟨0, by omega, rfl, by simpa using hr2.out, hkp.out⟩
                    case round =>
                      clear hr2 hkp
                      obtain ⟨f, hf, rfl, hr, hkp⟩ := hrel
                      by_cases hlt : f < q
                      · -- [[E
                        have hqT : f < T.length := by rw [hkT.out]; exact hlt
                        obtain ⟨bk, off, rfl, hbk, hcell⟩ := hT.out.at (by intro h; rw [List.map_eq_nil_iff] at h; rw [h] at hqT; simp at hqT)
                        have cc := hkp.cell (hs04.out.cell (hcell f (.string T[f]) (by simp [hqT]))) (show ¬ bk = rb by omega)
                        have hz := hTm.out _ (List.getElem_mem hqT)
                        have hdr := encT_drop hqT
                        obtain ⟨s, hss⟩ : ∃ s, s = T[f] := ⟨_, rfl⟩
                        rw [← hss] at cc hz hdr
                        rw [hdr, List.append_assoc] at hr
                        have hzl : s.data.toList.length = s.size := rfl
                        have htx := text_any rb db _ (s.size : Int) wr hr
                        rw [← hzl, rText_put s.data.toList _ (by omega), hzl] at htx
                        have q0 : 0 ≤ (f : Int) := by omega
                        have q1 : (f : Int) < (q : Int) := by omega
                        have hse : (⟨s.data.toList.toArray⟩ : ByteArray) = s := by cases s; simp
                        clear hcell hss hdr hr hzl
                        replace htx := Lib.hid htx
                        replace hkp := Lib.hid hkp
                        replace hse := Lib.hid hse
                        go_wp2_with fail
                        refine (htx.out).mono ?_
                        rintro e w5 ⟨rfl, hr5, hk5⟩
                        simp only [hse.out]
                        replace hr5 := Lib.hid hr5
                        replace hk5 := Lib.hid hk5
                        go_wp2
                        go_roundw
                        case rel => exact ⟨f + 1, by omega, by go_num, hr5.out, hkp.out.trans hk5.out (fun _ _ h => h)⟩
                        case measure => simp [intOf]; omega
                        -- E]]
                      · obtain rfl : f = q := by omega
                        have eT : T.drop f = [] := List.drop_of_length_le (by rw [hkT.out]; exact Nat.le_refl _)
                        rw [eT] at hr
                        have hr2 : Rdr wr rb db (tl, 0) := hr
                        have herr := Lib.hid (err_any rb db _ wr hr2)
                        have hleft := left2_any rb db _ wr hr2
                        have htl3 : tl.length = len := by have := htl.out.len; rw [bv_length] at this; omega
                        rw [Num.rLeft, if_neg (by simp), htl3] at hleft
                        replace hleft := Lib.hid hleft
                        have hs5 : Same w wr := hs04.out.keep hkp (fun x hx hv => by omega)
                        clear hr hlt eT hkp hr2 htl3
                        replace hs5 := Lib.hid hs5
                        go_wp2_with fail
                        refine (herr.out).mono ?_
                        rintro e w6 ⟨rfl, rfl⟩
                        go_wp2_with fail
                        refine (hleft.out).mono ?_
                        rintro e w6 ⟨rfl, rfl⟩
                        go_wp2_with fail
                        refine (hlives.out _).mono ?_
                        rintro e w7 ⟨rfl, hs7⟩
                        go_wp2
                        go_ret
                        exact ⟨rfl, hs5.out.trans hs7⟩
      · -- [[Z
        have hbig : 500 < il ∨ il ≤ 500 ∧ 5000 < m ∨ il ≤ 500 ∧ m ≤ 5000 ∧ 5000 < len := by omega
        rcases hbig with hb | ⟨hb, hb2⟩ | ⟨hb, hb2, hb3⟩
        all_goals
          by_cases hks : k < sl
          all_goals
            first
            | (exfalso; omega)
            | (go_wp2_with fail
               refine (hlives.out _).mono ?_
               rintro e w2 ⟨rfl, hs2⟩
               go_wp2
               go_ret
               exact ⟨rfl, hs2⟩)
        -- Z]]
end Go.Proofs.Yteokeidclgfgnaa
