/-
  The document's sum that is asked about up to so much alone (raddleref01.Add).
-/
import Derived.Test.YtmacgmmjgdmleaaReads
namespace Go.Proofs.Ytmacgmmjgdmleaa
open Go Go.RowKit
set_option linter.unusedSimpArgs false
set_option linter.unusedVariables false

def addUp (n more most : Nat) : Nat := if n + more ≤ most then n + more else most + 1
set_option maxRecDepth 100000 in
set_option maxHeartbeats 400000 in
theorem add_any (n more most : Nat) (w : World) (hn : n ≤ 1000000000) (hm : more ≤ 1152921504606846976) (hx : most ≤ 1000000000) :
    Calls Try.prog 89 #[.int .i64 n, .int .i64 more, .int .i64 most] w fun e w' => e = .returned (.int .i64 (addUp n more most : Nat)) ∧ w = w' := by
  unfold addUp
  by_cases h1 : most < n
  · rw [if_neg (by omega)]
    go_enter Try.func89, Try.ntmps89
    go_wp2
    go_ret
    exact ⟨rfl, rfl⟩
  · by_cases h2 : most < more
    · rw [if_neg (by omega)]
      go_enter Try.func89, Try.ntmps89
      go_wp2
      go_ret
      exact ⟨rfl, rfl⟩
    · by_cases h3 : n + more ≤ most
      · rw [if_pos h3]
        have h4 : ¬ ((most : Int) - (more : Int) < (n : Int)) := by omega
        go_enter Try.func89, Try.ntmps89
        go_wp2
        go_ret
        exact ⟨rfl, rfl⟩
      · rw [if_neg h3]
        have h4 : ((most : Int) - (more : Int) < (n : Int)) := by omega
        go_enter Try.func89, Try.ntmps89
        go_wp2
        go_ret
        exact ⟨rfl, rfl⟩
end Go.Proofs.Ytmacgmmjgdmleaa
