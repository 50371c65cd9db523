/-
  Requests: what was put is read as it was.
-/
import Derived.Test.YthgpmgodpedjdaaReqG
namespace Go.Proofs.Ythgpmgodpedjdaa
open Go Go.RowKit
set_option linter.unusedSimpArgs false
set_option linter.unusedVariables false

theorem rNum_put' (n : Nat) (most : Int) (rest : List UInt8) (h : n ≤ 9223372036854775807) (hm : (n : Int) ≤ most) : Num.rNum (Num.putI n ++ rest, 0) most = (n, (rest, 0)) := by
  rw [Num.putI_nat, Num.rNum, if_neg (by simp), Num.numAt_put n rest h]
  simp only [ne_eq, not_true, if_false]
  rw [if_neg (by omega), List.drop_left]
theorem rText_put' (s : List UInt8) (most : Int) (rest : List UInt8) (h : s.length ≤ 9223372036854775807) (hm : (s.length : Int) ≤ most) : Num.rText (Num.putT s ++ rest, 0) most = (s, (rest, 0)) := by
  rw [Num.rText, if_neg (by simp), Num.putT, List.append_assoc, Num.numAt_put s.length (s ++ rest) h]
  simp only [ne_eq, not_true, if_false]
  rw [if_neg (by omega), if_neg (by rw [List.length_append, List.length_append]; omega)]
  have e1 : (Num.putN s.length ++ (s ++ rest)).drop (Num.putN s.length).length = s ++ rest := List.drop_left
  have e2 : (Num.putN s.length ++ (s ++ rest)).drop ((Num.putN s.length).length + s.length) = rest := by rw [← List.append_assoc, ← List.length_append, List.drop_left]
  rw [e1, e2, List.take_left]
theorem reqGet_put (r : Req) (rest : List UInt8) (ht : r.tag.length = 16) (h0 : 0 ≤ r.client) (h1 : r.client ≤ 8) (h2 : 0 ≤ r.num) (h3 : r.num ≤ 1099511627776) (h4 : r.data.size ≤ 64) : reqGet (reqPut r ++ rest, 0) = (r, (rest, 0)) := by
  obtain ⟨c, n, d, t⟩ := r
  simp only at ht h0 h1 h2 h3 h4
  obtain ⟨c, rfl⟩ := Int.eq_ofNat_of_zero_le h0
  obtain ⟨n, rfl⟩ := Int.eq_ofNat_of_zero_le h2
  unfold reqGet reqPut
  simp only
  have hd : d.data.toList.length = d.size := by simp
  rw [List.append_assoc, List.append_assoc, List.append_assoc, rNum_put' c 8 _ (by omega) h1]
  simp only
  rw [rNum_put' n 1099511627776 _ (by omega) h3]
  simp only
  rw [rText_put' d.data.toList 64 _ (by omega) (by omega)]
  simp only
  have hr : Num.rRaw (t ++ rest, 0) 16 = (t, (rest, 0)) := by
    unfold Num.rRaw
    simp only [ne_eq, not_true, if_false]
    rw [if_neg (by omega), if_neg (by rw [List.length_append]; omega)]
    simp [← ht]
  rw [hr]
  simp only
  rw [if_neg (by omega)]
end Go.Proofs.Ythgpmgodpedjdaa
