/-
  Requests, the document's: which are good; their bucket, by both.
-/
import Derived.Test.YtmacgmmjgdmleaaReq2
namespace Go.Proofs.Ytmacgmmjgdmleaa
open Go Go.RowKit
set_option linter.unusedSimpArgs false
set_option linter.unusedVariables false

def reqBucket (client num buckets : Int) : Int := if client < 0 ∨ num < 0 then 0 else shareOf (Sha.sum (Num.putI client ++ Num.putI num)) buckets
set_option maxRecDepth 100000 in
set_option maxHeartbeats 800000 in
theorem rqbucket_any (w : World) (client num buckets : Int) (h1 : client ≤ 9223372036854775807) (h2 : num ≤ 9223372036854775807) :
    Calls Try.prog 116 #[.int .i64 client, .int .i64 num, .int .i64 buckets] w fun e w' => e = .returned (.int .i64 (reqBucket client num buckets)) ∧ Same w w' := by
  unfold reqBucket
  by_cases hn : client < 0 ∨ num < 0
  · rw [if_pos hn]
    have key : ∀ hh : client < 0 ∨ 0 ≤ client ∧ num < 0, Calls Try.prog 116 #[.int .i64 client, .int .i64 num, .int .i64 buckets] w fun e w' => e = .returned (.int .i64 0) ∧ Same w w' := by
      intro hh
      clear hn
      rcases hh with h1 | ⟨h1, h2⟩
      all_goals
        go_enter Try.func116, Try.ntmps116
        go_wp2
        go_ret
        exact ⟨rfl, Same.refl⟩
    exact key (by omega)
  · rw [if_neg hn]
    have hp1 := fun w => put_any none 0 0 [] client w (Sl.none w 1) (by omega) (by omega)
    have hp2 := fun w => put_any none 0 0 [] num w (Sl.none w 1) (by omega) (by omega)
    simp only [List.nil_append] at hp1 hp2
    have l1 := Num.putI_le client h1
    have l2 := Num.putI_le num h2
    obtain ⟨A, hA⟩ : ∃ A, A = Num.putI client := ⟨_, rfl⟩
    obtain ⟨B, hB⟩ : ∃ B, B = Num.putI num := ⟨_, rfl⟩
    rw [← hA] at hp1 l1 ⊢
    rw [← hB] at hp2 l2 ⊢
    have hsum := fun w po pn pc vs h1 h2 => sum_any po pn pc vs [A, B] w h1 h2 (by simp; omega)
    rw [show [A, B].flatten = A ++ B from by simp] at hsum
    have hSl := Sha.sum_length (A ++ B)
    obtain ⟨S, hS⟩ : ∃ S, S = Sha.sum (A ++ B) := ⟨_, rfl⟩
    rw [← hS] at hsum hSl ⊢
    have hsh := fun w => share_any S hSl buckets w
    obtain ⟨R, hR⟩ : ∃ R, R = shareOf S buckets := ⟨_, rfl⟩
    rw [← hR] at hsh ⊢
    have n1 : 0 ≤ client := by omega
    have n2 : 0 ≤ num := by omega
    clear hA hB hS hR hn hSl
    replace hp1 := Lib.hid hp1
    replace hp2 := Lib.hid hp2
    replace hsum := Lib.hid hsum
    replace hsh := Lib.hid hsh
    go_enter Try.func116, Try.ntmps116
    go_wp2_with fail
    refine (hp1.out _).mono ?_
    rintro e w1 ⟨a1, c1, rfl, hsl1, hs1⟩
    go_wp2_with fail
    refine (hp2.out _).mono ?_
    rintro e w2 ⟨a2, c2, rfl, hsl2, hs2⟩
    have hbx := sl_box (w := w2) (e := 166) [.slice a1 A.length c1, .slice a2 B.length c2] 2 rfl (by unfold maxLen; omega)
    have hpx := (Sls.cons (hsl1.same hs2) (Sls.cons hsl2 (Sls.nil w2))).box (e := 166)
    have hsm := Lib.hid (hsum.out _ _ _ _ _ hbx hpx)
    have hw2 := Lib.hid (hs1.trans hs2)
    clear hbx hpx hs1 hs2 hsl1 hsl2
    go_wp2_with fail
    refine hsm.out.mono ?_
    rintro e w3 ⟨rfl, hs3⟩
    have hw3 := Lib.hid (hw2.out.trans ((Same.refl.alloc _).trans hs3))
    clear hw2 hs3 hsm
    go_wp2_with fail
    refine (hsh.out _).mono ?_
    rintro e w4 ⟨rfl, hs4⟩
    go_wp2
    go_ret
    exact ⟨rfl, hw3.out.trans hs4⟩
set_option maxRecDepth 100000 in
set_option maxHeartbeats 800000 in
theorem rqrbucket_any (w : World) (client num buckets : Int) (h1 : client ≤ 9223372036854775807) (h2 : num ≤ 9223372036854775807) :
    Calls Try.prog 123 #[.int .i64 client, .int .i64 num, .int .i64 buckets] w fun e w' => e = .returned (.int .i64 (reqBucket client num buckets)) ∧ Same w w' := by
  unfold reqBucket
  by_cases hn : client < 0 ∨ num < 0
  · rw [if_pos hn]
    have key : ∀ hh : client < 0 ∨ 0 ≤ client ∧ num < 0, Calls Try.prog 123 #[.int .i64 client, .int .i64 num, .int .i64 buckets] w fun e w' => e = .returned (.int .i64 0) ∧ Same w w' := by
      intro hh
      clear hn
      rcases hh with h1 | ⟨h1, h2⟩
      all_goals
        go_enter Try.func123, Try.ntmps123
        go_wp2
        go_ret
        exact ⟨rfl, Same.refl⟩
    exact key (by omega)
  · rw [if_neg hn]
    have hp1 := fun w => rput_any none 0 0 [] client w (Sl.none w 1) (by omega) (by omega)
    simp only [List.nil_append] at hp1
    have l1 := Num.putI_le client h1
    have l2 := Num.putI_le num h2
    obtain ⟨A, hA⟩ : ∃ A, A = Num.putI client := ⟨_, rfl⟩
    rw [← hA] at hp1 l1 ⊢
    have hp2 := fun ao cap w h => rput_any ao A.length cap A num w h (by omega) (by omega)
    obtain ⟨C, hC⟩ : ∃ C, C = A ++ Num.putI num := ⟨_, rfl⟩
    have hCl : C.length ≤ 18 := by rw [hC]; simp; omega
    rw [← hC] at hp2 ⊢
    have hsum := fun ao cap w h => rsum_any ao C.length cap C w h (by omega)
    have hSl := Sha.sum_length C
    obtain ⟨S, hS⟩ : ∃ S, S = Sha.sum C := ⟨_, rfl⟩
    rw [← hS] at hsum hSl ⊢
    have hsh := fun w => rshare_any S hSl buckets w
    obtain ⟨R, hR⟩ : ∃ R, R = shareOf S buckets := ⟨_, rfl⟩
    rw [← hR] at hsh ⊢
    have n1 : 0 ≤ client := by omega
    have n2 : 0 ≤ num := by omega
    clear hA hC hS hR hn hSl
    replace hp1 := Lib.hid hp1
    replace hp2 := Lib.hid hp2
    replace hsum := Lib.hid hsum
    replace hsh := Lib.hid hsh
    go_enter Try.func123, Try.ntmps123
    go_wp2_with fail
    refine (hp1.out _).mono ?_
    rintro e w1 ⟨v1, rfl, ho1, hs1⟩
    obtain ⟨a1, c1, rfl, hsl1⟩ := ho1.sl
    clear ho1
    replace hsl1 := Lib.hid hsl1
    replace hs1 := Lib.hid hs1
    go_wp2_with fail
    refine (hp2.out _ _ _ hsl1.out).mono ?_
    rintro e w2 ⟨v2, rfl, ho2, hs2⟩
    obtain ⟨a2, c2, rfl, hsl2⟩ := ho2.sl
    have hw2 := Lib.hid (hs1.out.trans hs2)
    clear ho2 hs2
    replace hsl2 := Lib.hid hsl2
    go_wp2_with fail
    refine (hsum.out _ _ _ hsl2.out).mono ?_
    rintro e w3 ⟨rfl, hs3⟩
    have hw3 := Lib.hid (hw2.out.trans hs3)
    clear hw2 hs3
    go_wp2_with fail
    refine (hsh.out _).mono ?_
    rintro e w4 ⟨rfl, hs4⟩
    go_wp2
    go_ret
    exact ⟨rfl, hw3.out.trans hs4⟩
end Go.Proofs.Ytmacgmmjgdmleaa
