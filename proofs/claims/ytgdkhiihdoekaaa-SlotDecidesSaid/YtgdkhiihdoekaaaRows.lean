/-
  No cell of these rows narrows 'for every input' (looked for: loops, veiled, ifaces, maps, wideKeys, modest, calm, conditions, laid).
  DERIVED. THE GIVEN ROWS OF THIS SEAT. 12 by the template 'for every input the law returns true; each argument reads behind the call as it read before'; 0 by the template 'total and deterministic' (their statements: YtgdkhiihdoekaaaTotals.lean).
  GIVEN WITH THE SEED: the statements are not yours to turn. If you find one false, say at which input.
  Laid BY PROGRAM, IN A SANDBOX (cutbox-rows.mjs): the forced cells as the released guide's own fill.sh prints them over the translation dad736e724521e39… (all of the seat's roots in one cut). By AI agents, Wed Nov 11 2026. No macro, syntax, notation, axiom, sorry.
-/
import Derived.Test.YtgdkhiihdoekaaaChecked
import GoSem.Claim
import GoSem.ClaimJoined
import GoSem.ClaimMapViews
import Derived.JoinedTies
import Derived.KernelRfl
namespace Go.Proofs.Ytgdkhiihdoekaaa
/- THE CELL 'sum', in the pinned program and in every row, IS THE sha256 OF THE DUMP (.gsa) THAT YtgdkhiihdoekaaaProg.lean LOADS. Nothing in Lean hashes anything: it is a label: what it is worth is what the hold of that sum in a sandbox is worth. -/
noncomputable def Try.pinned : Pinned := { name := "ytgdkhiihdoekaaa", sum := "dad736e724521e39d9e393337daf50d6d414975de3bedb4237446646df73cf35", checked := Try.checked }
namespace Rows
def none {H : Type} : Left H := { results := [], args := [] }

/-- 'raddlelaw07.BatchMeets': WHATEVER THE INPUT: true; the input reads as it did. -/
def batchMeetsSpec : ChangeSpec := { name := "batchMeets", fn := fun _ => fun
  | [d1, d2] => { results := [.lit (.bool true)], args := [d1, d2] }
  | _ => none }
def batchMeetsRow : OpenClaim := { program := "ytgdkhiihdoekaaa", sum := "dad736e724521e39d9e393337daf50d6d414975de3bedb4237446646df73cf35", func := "raddle/raddlelaw07.BatchMeets", spec := "batchMeets", unfollowed := true, recurses := true, plainKeys := false, apart := false }
def BatchMeetsSaid : Prop := batchMeetsRow.holds Try.pinned (OpenSpec.ofChange batchMeetsSpec)

/-- ITS FALSE NEIGHBOUR: 'it returns false'. Refute it at one input. -/
def batchMeetsWrong : ChangeSpec := { name := "batchMeets", fn := fun _ => fun
  | [d1, d2] => { results := [.lit (.bool false)], args := [d1, d2] }
  | _ => none }
def BatchMeetsWrongFalsely : Prop := batchMeetsRow.holds Try.pinned (OpenSpec.ofChange batchMeetsWrong)

/-- 'raddlelaw18.SlotHolds': WHATEVER THE INPUT: true; the input reads as it did. -/
def slotHoldsSpec : ChangeSpec := { name := "slotHolds", fn := fun _ => fun
  | [d1, d2, d3, d4] => { results := [.lit (.bool true)], args := [d1, d2, d3, d4] }
  | _ => none }
def slotHoldsRow : OpenClaim := { program := "ytgdkhiihdoekaaa", sum := "dad736e724521e39d9e393337daf50d6d414975de3bedb4237446646df73cf35", func := "raddle/raddlelaw18.SlotHolds", spec := "slotHolds", unfollowed := true, recurses := true, plainKeys := false, apart := false }
def SlotHoldsSaid : Prop := slotHoldsRow.holds Try.pinned (OpenSpec.ofChange slotHoldsSpec)

/-- ITS FALSE NEIGHBOUR: 'it returns false'. Refute it at one input. -/
def slotHoldsWrong : ChangeSpec := { name := "slotHolds", fn := fun _ => fun
  | [d1, d2, d3, d4] => { results := [.lit (.bool false)], args := [d1, d2, d3, d4] }
  | _ => none }
def SlotHoldsWrongFalsely : Prop := slotHoldsRow.holds Try.pinned (OpenSpec.ofChange slotHoldsWrong)

/-- 'raddlelaw18.SlotOnce': WHATEVER THE INPUT: true; the input reads as it did. -/
def slotOnceSpec : ChangeSpec := { name := "slotOnce", fn := fun _ => fun
  | [d] => { results := [.lit (.bool true)], args := [d] }
  | _ => none }
def slotOnceRow : OpenClaim := { program := "ytgdkhiihdoekaaa", sum := "dad736e724521e39d9e393337daf50d6d414975de3bedb4237446646df73cf35", func := "raddle/raddlelaw18.SlotOnce", spec := "slotOnce", unfollowed := true, recurses := true, plainKeys := false, apart := false }
def SlotOnceSaid : Prop := slotOnceRow.holds Try.pinned (OpenSpec.ofChange slotOnceSpec)

/-- ITS FALSE NEIGHBOUR: 'it returns false'. Refute it at one input. -/
def slotOnceWrong : ChangeSpec := { name := "slotOnce", fn := fun _ => fun
  | [d] => { results := [.lit (.bool false)], args := [d] }
  | _ => none }
def SlotOnceWrongFalsely : Prop := slotOnceRow.holds Try.pinned (OpenSpec.ofChange slotOnceWrong)

/-- 'raddlelaw18.SlotDecides': WHATEVER THE INPUT: true; the input reads as it did. -/
def slotDecidesSpec : ChangeSpec := { name := "slotDecides", fn := fun _ => fun
  | [d1, d2, d3, d4] => { results := [.lit (.bool true)], args := [d1, d2, d3, d4] }
  | _ => none }
def slotDecidesRow : OpenClaim := { program := "ytgdkhiihdoekaaa", sum := "dad736e724521e39d9e393337daf50d6d414975de3bedb4237446646df73cf35", func := "raddle/raddlelaw18.SlotDecides", spec := "slotDecides", unfollowed := true, recurses := true, plainKeys := false, apart := false }
def SlotDecidesSaid : Prop := slotDecidesRow.holds Try.pinned (OpenSpec.ofChange slotDecidesSpec)

/-- ITS FALSE NEIGHBOUR: 'it returns false'. Refute it at one input. -/
def slotDecidesWrong : ChangeSpec := { name := "slotDecides", fn := fun _ => fun
  | [d1, d2, d3, d4] => { results := [.lit (.bool false)], args := [d1, d2, d3, d4] }
  | _ => none }
def SlotDecidesWrongFalsely : Prop := slotDecidesRow.holds Try.pinned (OpenSpec.ofChange slotDecidesWrong)

/-- 'raddlelaw18.SlotTells': WHATEVER THE INPUT: true; the input reads as it did. -/
def slotTellsSpec : ChangeSpec := { name := "slotTells", fn := fun _ => fun
  | [d1, d2, d3, d4, d5] => { results := [.lit (.bool true)], args := [d1, d2, d3, d4, d5] }
  | _ => none }
def slotTellsRow : OpenClaim := { program := "ytgdkhiihdoekaaa", sum := "dad736e724521e39d9e393337daf50d6d414975de3bedb4237446646df73cf35", func := "raddle/raddlelaw18.SlotTells", spec := "slotTells", unfollowed := true, recurses := true, plainKeys := false, apart := false }
def SlotTellsSaid : Prop := slotTellsRow.holds Try.pinned (OpenSpec.ofChange slotTellsSpec)

/-- ITS FALSE NEIGHBOUR: 'it returns false'. Refute it at one input. -/
def slotTellsWrong : ChangeSpec := { name := "slotTells", fn := fun _ => fun
  | [d1, d2, d3, d4, d5] => { results := [.lit (.bool false)], args := [d1, d2, d3, d4, d5] }
  | _ => none }
def SlotTellsWrongFalsely : Prop := slotTellsRow.holds Try.pinned (OpenSpec.ofChange slotTellsWrong)

/-- 'raddlelaw07.BatchOnce': WHATEVER THE INPUT: true; the input reads as it did. -/
def batchOnceSpec : ChangeSpec := { name := "batchOnce", fn := fun _ => fun
  | [d1, d2] => { results := [.lit (.bool true)], args := [d1, d2] }
  | _ => none }
def batchOnceRow : OpenClaim := { program := "ytgdkhiihdoekaaa", sum := "dad736e724521e39d9e393337daf50d6d414975de3bedb4237446646df73cf35", func := "raddle/raddlelaw07.BatchOnce", spec := "batchOnce", unfollowed := true, recurses := true, plainKeys := false, apart := false }
def BatchOnceSaid : Prop := batchOnceRow.holds Try.pinned (OpenSpec.ofChange batchOnceSpec)

/-- ITS FALSE NEIGHBOUR: 'it returns false'. Refute it at one input. -/
def batchOnceWrong : ChangeSpec := { name := "batchOnce", fn := fun _ => fun
  | [d1, d2] => { results := [.lit (.bool false)], args := [d1, d2] }
  | _ => none }
def BatchOnceWrongFalsely : Prop := batchOnceRow.holds Try.pinned (OpenSpec.ofChange batchOnceWrong)

/-- 'raddlelaw07.BatchChecks': WHATEVER THE INPUT: true; the input reads as it did. -/
def batchChecksSpec : ChangeSpec := { name := "batchChecks", fn := fun _ => fun
  | [d1, d2, d3] => { results := [.lit (.bool true)], args := [d1, d2, d3] }
  | _ => none }
def batchChecksRow : OpenClaim := { program := "ytgdkhiihdoekaaa", sum := "dad736e724521e39d9e393337daf50d6d414975de3bedb4237446646df73cf35", func := "raddle/raddlelaw07.BatchChecks", spec := "batchChecks", unfollowed := true, recurses := true, plainKeys := false, apart := false }
def BatchChecksSaid : Prop := batchChecksRow.holds Try.pinned (OpenSpec.ofChange batchChecksSpec)

/-- ITS FALSE NEIGHBOUR: 'it returns false'. Refute it at one input. -/
def batchChecksWrong : ChangeSpec := { name := "batchChecks", fn := fun _ => fun
  | [d1, d2, d3] => { results := [.lit (.bool false)], args := [d1, d2, d3] }
  | _ => none }
def BatchChecksWrongFalsely : Prop := batchChecksRow.holds Try.pinned (OpenSpec.ofChange batchChecksWrong)

/-- 'raddlelaw22.StateParses': WHATEVER THE INPUT: true; the input reads as it did. -/
def stateParsesSpec : ChangeSpec := { name := "stateParses", fn := fun _ => fun
  | [d1, d2] => { results := [.lit (.bool true)], args := [d1, d2] }
  | _ => none }
def stateParsesRow : OpenClaim := { program := "ytgdkhiihdoekaaa", sum := "dad736e724521e39d9e393337daf50d6d414975de3bedb4237446646df73cf35", func := "raddle/raddlelaw22.StateParses", spec := "stateParses", unfollowed := true, recurses := true, plainKeys := false, apart := false }
def StateParsesSaid : Prop := stateParsesRow.holds Try.pinned (OpenSpec.ofChange stateParsesSpec)

/-- ITS FALSE NEIGHBOUR: 'it returns false'. Refute it at one input. -/
def stateParsesWrong : ChangeSpec := { name := "stateParses", fn := fun _ => fun
  | [d1, d2] => { results := [.lit (.bool false)], args := [d1, d2] }
  | _ => none }
def StateParsesWrongFalsely : Prop := stateParsesRow.holds Try.pinned (OpenSpec.ofChange stateParsesWrong)

/-- 'raddlelaw22.StateBack': WHATEVER THE INPUT: true; the input reads as it did. -/
def stateBackSpec : ChangeSpec := { name := "stateBack", fn := fun _ => fun
  | [d1, d2, d3] => { results := [.lit (.bool true)], args := [d1, d2, d3] }
  | _ => none }
def stateBackRow : OpenClaim := { program := "ytgdkhiihdoekaaa", sum := "dad736e724521e39d9e393337daf50d6d414975de3bedb4237446646df73cf35", func := "raddle/raddlelaw22.StateBack", spec := "stateBack", unfollowed := true, recurses := true, plainKeys := false, apart := false }
def StateBackSaid : Prop := stateBackRow.holds Try.pinned (OpenSpec.ofChange stateBackSpec)

/-- ITS FALSE NEIGHBOUR: 'it returns false'. Refute it at one input. -/
def stateBackWrong : ChangeSpec := { name := "stateBack", fn := fun _ => fun
  | [d1, d2, d3] => { results := [.lit (.bool false)], args := [d1, d2, d3] }
  | _ => none }
def StateBackWrongFalsely : Prop := stateBackRow.holds Try.pinned (OpenSpec.ofChange stateBackWrong)

/-- 'raddlelaw10.PoolFew': WHATEVER THE INPUT: true; the input reads as it did. -/
def poolFewSpec : ChangeSpec := { name := "poolFew", fn := fun _ => fun
  | [d1, d2, d3] => { results := [.lit (.bool true)], args := [d1, d2, d3] }
  | _ => none }
def poolFewRow : OpenClaim := { program := "ytgdkhiihdoekaaa", sum := "dad736e724521e39d9e393337daf50d6d414975de3bedb4237446646df73cf35", func := "raddle/raddlelaw10.PoolFew", spec := "poolFew", unfollowed := true, recurses := true, plainKeys := false, apart := false }
def PoolFewSaid : Prop := poolFewRow.holds Try.pinned (OpenSpec.ofChange poolFewSpec)

/-- ITS FALSE NEIGHBOUR: 'it returns false'. Refute it at one input. -/
def poolFewWrong : ChangeSpec := { name := "poolFew", fn := fun _ => fun
  | [d1, d2, d3] => { results := [.lit (.bool false)], args := [d1, d2, d3] }
  | _ => none }
def PoolFewWrongFalsely : Prop := poolFewRow.holds Try.pinned (OpenSpec.ofChange poolFewWrong)

/-- 'raddlelaw10.PoolNobody': WHATEVER THE INPUT: true; the input reads as it did. -/
def poolNobodySpec : ChangeSpec := { name := "poolNobody", fn := fun _ => fun
  | [d] => { results := [.lit (.bool true)], args := [d] }
  | _ => none }
def poolNobodyRow : OpenClaim := { program := "ytgdkhiihdoekaaa", sum := "dad736e724521e39d9e393337daf50d6d414975de3bedb4237446646df73cf35", func := "raddle/raddlelaw10.PoolNobody", spec := "poolNobody", unfollowed := true, recurses := true, plainKeys := false, apart := false }
def PoolNobodySaid : Prop := poolNobodyRow.holds Try.pinned (OpenSpec.ofChange poolNobodySpec)

/-- ITS FALSE NEIGHBOUR: 'it returns false'. Refute it at one input. -/
def poolNobodyWrong : ChangeSpec := { name := "poolNobody", fn := fun _ => fun
  | [d] => { results := [.lit (.bool false)], args := [d] }
  | _ => none }
def PoolNobodyWrongFalsely : Prop := poolNobodyRow.holds Try.pinned (OpenSpec.ofChange poolNobodyWrong)

/-- 'raddlelaw12.EpochTells': WHATEVER THE INPUT: true; the input reads as it did. -/
def epochTellsSpec : ChangeSpec := { name := "epochTells", fn := fun _ => fun
  | [d1, d2, d3, d4, d5] => { results := [.lit (.bool true)], args := [d1, d2, d3, d4, d5] }
  | _ => none }
def epochTellsRow : OpenClaim := { program := "ytgdkhiihdoekaaa", sum := "dad736e724521e39d9e393337daf50d6d414975de3bedb4237446646df73cf35", func := "raddle/raddlelaw12.EpochTells", spec := "epochTells", unfollowed := true, recurses := true, plainKeys := false, apart := false }
def EpochTellsSaid : Prop := epochTellsRow.holds Try.pinned (OpenSpec.ofChange epochTellsSpec)

/-- ITS FALSE NEIGHBOUR: 'it returns false'. Refute it at one input. -/
def epochTellsWrong : ChangeSpec := { name := "epochTells", fn := fun _ => fun
  | [d1, d2, d3, d4, d5] => { results := [.lit (.bool false)], args := [d1, d2, d3, d4, d5] }
  | _ => none }
def EpochTellsWrongFalsely : Prop := epochTellsRow.holds Try.pinned (OpenSpec.ofChange epochTellsWrong)

/- THE SECOND FORM. 'bulk': how many values and letters a reading holds, each counted each time it is reached (what is shared counts as often as it is met; a slice's spare places count too). A statement '..UptoSaid' is the law's where the arguments, and the package variables that the reading takes, are together of bulk at most 1048576: NARROWER than '..Said'. Prove '..Said' where nothing that the law and all that it calls make is longer than what came in: it says more and counts as full. Else prove '..UptoSaid'. A law counts once. -/
mutual
def uptoBulk {H : Type} : DataW H → Nat
  | .lit (.string bytes) => bytes.length + 1
  | .lit _ => 1
  | .nil => 1
  | .ptr d => uptoBulk d + 1
  | .slice elems spare => uptoBulkAll elems + uptoBulkAll spare + 1
  | .agg parts => uptoBulkAll parts + 1
  | .iface _ d => uptoBulk d + 1
  | .map entries => uptoBulkEntries entries + 1
  | .held _ => 1
def uptoBulkAll {H : Type} : List (DataW H) → Nat
  | [] => 0
  | d :: r => uptoBulk d + uptoBulkAll r
def uptoBulkEntries {H : Type} : List (Lit × DataW H) → Nat
  | [] => 0
  | x :: r => uptoBulkEntry x + uptoBulkEntries r
def uptoBulkEntry {H : Type} : Lit × DataW H → Nat
  | (.string bytes, d) => bytes.length + uptoBulk d + 1
  | (_, d) => uptoBulk d + 1
 end
def uptoSmall : (H : Type) → List (DataW H) → Bool := fun _ ds => decide (uptoBulkAll ds ≤ 1048576)
def OpenSpec.upto (s : _root_.Go.ChangeSpec) : _root_.Go.OpenSpec := { _root_.Go.OpenSpec.ofChange s with cond := some uptoSmall }

/-- 'raddlelaw07.BatchMeets', WHERE WHAT IT READS IS OF BULK AT MOST 1048576: true; the input reads as it did. -/
def batchMeetsUptoRow : OpenClaim := { program := "ytgdkhiihdoekaaa", sum := "dad736e724521e39d9e393337daf50d6d414975de3bedb4237446646df73cf35", func := "raddle/raddlelaw07.BatchMeets", spec := "batchMeets", unfollowed := true, recurses := true, plainKeys := false, apart := false, narrowed := true }
def BatchMeetsUptoSaid : Prop := batchMeetsUptoRow.holds Try.pinned (OpenSpec.upto batchMeetsSpec)

/-- 'raddlelaw18.SlotHolds', WHERE WHAT IT READS IS OF BULK AT MOST 1048576: true; the input reads as it did. -/
def slotHoldsUptoRow : OpenClaim := { program := "ytgdkhiihdoekaaa", sum := "dad736e724521e39d9e393337daf50d6d414975de3bedb4237446646df73cf35", func := "raddle/raddlelaw18.SlotHolds", spec := "slotHolds", unfollowed := true, recurses := true, plainKeys := false, apart := false, narrowed := true }
def SlotHoldsUptoSaid : Prop := slotHoldsUptoRow.holds Try.pinned (OpenSpec.upto slotHoldsSpec)

/-- 'raddlelaw18.SlotOnce', WHERE WHAT IT READS IS OF BULK AT MOST 1048576: true; the input reads as it did. -/
def slotOnceUptoRow : OpenClaim := { program := "ytgdkhiihdoekaaa", sum := "dad736e724521e39d9e393337daf50d6d414975de3bedb4237446646df73cf35", func := "raddle/raddlelaw18.SlotOnce", spec := "slotOnce", unfollowed := true, recurses := true, plainKeys := false, apart := false, narrowed := true }
def SlotOnceUptoSaid : Prop := slotOnceUptoRow.holds Try.pinned (OpenSpec.upto slotOnceSpec)

/-- 'raddlelaw18.SlotDecides', WHERE WHAT IT READS IS OF BULK AT MOST 1048576: true; the input reads as it did. -/
def slotDecidesUptoRow : OpenClaim := { program := "ytgdkhiihdoekaaa", sum := "dad736e724521e39d9e393337daf50d6d414975de3bedb4237446646df73cf35", func := "raddle/raddlelaw18.SlotDecides", spec := "slotDecides", unfollowed := true, recurses := true, plainKeys := false, apart := false, narrowed := true }
def SlotDecidesUptoSaid : Prop := slotDecidesUptoRow.holds Try.pinned (OpenSpec.upto slotDecidesSpec)

/-- 'raddlelaw18.SlotTells', WHERE WHAT IT READS IS OF BULK AT MOST 1048576: true; the input reads as it did. -/
def slotTellsUptoRow : OpenClaim := { program := "ytgdkhiihdoekaaa", sum := "dad736e724521e39d9e393337daf50d6d414975de3bedb4237446646df73cf35", func := "raddle/raddlelaw18.SlotTells", spec := "slotTells", unfollowed := true, recurses := true, plainKeys := false, apart := false, narrowed := true }
def SlotTellsUptoSaid : Prop := slotTellsUptoRow.holds Try.pinned (OpenSpec.upto slotTellsSpec)

/-- 'raddlelaw07.BatchOnce', WHERE WHAT IT READS IS OF BULK AT MOST 1048576: true; the input reads as it did. -/
def batchOnceUptoRow : OpenClaim := { program := "ytgdkhiihdoekaaa", sum := "dad736e724521e39d9e393337daf50d6d414975de3bedb4237446646df73cf35", func := "raddle/raddlelaw07.BatchOnce", spec := "batchOnce", unfollowed := true, recurses := true, plainKeys := false, apart := false, narrowed := true }
def BatchOnceUptoSaid : Prop := batchOnceUptoRow.holds Try.pinned (OpenSpec.upto batchOnceSpec)

/-- 'raddlelaw07.BatchChecks', WHERE WHAT IT READS IS OF BULK AT MOST 1048576: true; the input reads as it did. -/
def batchChecksUptoRow : OpenClaim := { program := "ytgdkhiihdoekaaa", sum := "dad736e724521e39d9e393337daf50d6d414975de3bedb4237446646df73cf35", func := "raddle/raddlelaw07.BatchChecks", spec := "batchChecks", unfollowed := true, recurses := true, plainKeys := false, apart := false, narrowed := true }
def BatchChecksUptoSaid : Prop := batchChecksUptoRow.holds Try.pinned (OpenSpec.upto batchChecksSpec)

/-- 'raddlelaw22.StateParses', WHERE WHAT IT READS IS OF BULK AT MOST 1048576: true; the input reads as it did. -/
def stateParsesUptoRow : OpenClaim := { program := "ytgdkhiihdoekaaa", sum := "dad736e724521e39d9e393337daf50d6d414975de3bedb4237446646df73cf35", func := "raddle/raddlelaw22.StateParses", spec := "stateParses", unfollowed := true, recurses := true, plainKeys := false, apart := false, narrowed := true }
def StateParsesUptoSaid : Prop := stateParsesUptoRow.holds Try.pinned (OpenSpec.upto stateParsesSpec)

/-- 'raddlelaw22.StateBack', WHERE WHAT IT READS IS OF BULK AT MOST 1048576: true; the input reads as it did. -/
def stateBackUptoRow : OpenClaim := { program := "ytgdkhiihdoekaaa", sum := "dad736e724521e39d9e393337daf50d6d414975de3bedb4237446646df73cf35", func := "raddle/raddlelaw22.StateBack", spec := "stateBack", unfollowed := true, recurses := true, plainKeys := false, apart := false, narrowed := true }
def StateBackUptoSaid : Prop := stateBackUptoRow.holds Try.pinned (OpenSpec.upto stateBackSpec)

/-- 'raddlelaw10.PoolFew', WHERE WHAT IT READS IS OF BULK AT MOST 1048576: true; the input reads as it did. -/
def poolFewUptoRow : OpenClaim := { program := "ytgdkhiihdoekaaa", sum := "dad736e724521e39d9e393337daf50d6d414975de3bedb4237446646df73cf35", func := "raddle/raddlelaw10.PoolFew", spec := "poolFew", unfollowed := true, recurses := true, plainKeys := false, apart := false, narrowed := true }
def PoolFewUptoSaid : Prop := poolFewUptoRow.holds Try.pinned (OpenSpec.upto poolFewSpec)

/-- 'raddlelaw10.PoolNobody', WHERE WHAT IT READS IS OF BULK AT MOST 1048576: true; the input reads as it did. -/
def poolNobodyUptoRow : OpenClaim := { program := "ytgdkhiihdoekaaa", sum := "dad736e724521e39d9e393337daf50d6d414975de3bedb4237446646df73cf35", func := "raddle/raddlelaw10.PoolNobody", spec := "poolNobody", unfollowed := true, recurses := true, plainKeys := false, apart := false, narrowed := true }
def PoolNobodyUptoSaid : Prop := poolNobodyUptoRow.holds Try.pinned (OpenSpec.upto poolNobodySpec)

/-- 'raddlelaw12.EpochTells', WHERE WHAT IT READS IS OF BULK AT MOST 1048576: true; the input reads as it did. -/
def epochTellsUptoRow : OpenClaim := { program := "ytgdkhiihdoekaaa", sum := "dad736e724521e39d9e393337daf50d6d414975de3bedb4237446646df73cf35", func := "raddle/raddlelaw12.EpochTells", spec := "epochTells", unfollowed := true, recurses := true, plainKeys := false, apart := false, narrowed := true }
def EpochTellsUptoSaid : Prop := epochTellsUptoRow.holds Try.pinned (OpenSpec.upto epochTellsSpec)

end Rows
end Go.Proofs.Ytgdkhiihdoekaaa
