/-
  No cell of these rows narrows 'for every input' (looked for: loops, veiled, ifaces, maps, wideKeys, modest, calm, conditions, laid).
  DERIVED. THE GIVEN ROWS OF THIS SEAT. 11 by the template 'for every input the law returns true; each argument reads behind the call as it read before'; 0 by the template 'total and deterministic' (their statements: YtmacgmmjgdmleaaTotals.lean).
  GIVEN WITH THE SEED: the statements are not yours to turn. If you find one false, say at which input.
  Laid BY PROGRAM, IN A SANDBOX (cutbox-rows.mjs): the forced cells as the released guide's own fill.sh prints them over the translation 3e1c7eff020f6759… (all of the seat's roots in one cut). By AI agents, Wed Nov 11 2026. No macro, syntax, notation, axiom, sorry.
-/
import Derived.Test.YtmacgmmjgdmleaaChecked
import GoSem.Claim
import GoSem.ClaimJoined
import GoSem.ClaimMapViews
import Derived.JoinedTies
import Derived.KernelRfl
namespace Go.Proofs.Ytmacgmmjgdmleaa
/- THE CELL 'sum', in the pinned program and in every row, IS THE sha256 OF THE DUMP (.gsa) THAT YtmacgmmjgdmleaaProg.lean LOADS. Nothing in Lean hashes anything: it is a label: what it is worth is what the hold of that sum in a sandbox is worth. -/
noncomputable def Try.pinned : Pinned := { name := "ytmacgmmjgdmleaa", sum := "3e1c7eff020f675944e12479de3ca1a2554e22117564b5759c6f378507b891c8", checked := Try.checked }
namespace Rows
def none {H : Type} : Left H := { results := [], args := [] }

/-- 'raddlelaw18.SlotOnce': WHATEVER THE INPUT: true; the input reads as it did. -/
def slotOnceSpec : ChangeSpec := { name := "slotOnce", fn := fun _ => fun
  | [d] => { results := [.lit (.bool true)], args := [d] }
  | _ => none }
def slotOnceRow : OpenClaim := { program := "ytmacgmmjgdmleaa", sum := "3e1c7eff020f675944e12479de3ca1a2554e22117564b5759c6f378507b891c8", func := "raddle/raddlelaw18.SlotOnce", spec := "slotOnce", unfollowed := true, recurses := true, plainKeys := false, apart := false }
def SlotOnceSaid : Prop := slotOnceRow.holds Try.pinned (OpenSpec.ofChange slotOnceSpec)

/-- ITS FALSE NEIGHBOUR: 'it returns false'. Refute it at one input. -/
def slotOnceWrong : ChangeSpec := { name := "slotOnce", fn := fun _ => fun
  | [d] => { results := [.lit (.bool false)], args := [d] }
  | _ => none }
def SlotOnceWrongFalsely : Prop := slotOnceRow.holds Try.pinned (OpenSpec.ofChange slotOnceWrong)

/-- 'raddlelaw18.SlotTells': WHATEVER THE INPUT: true; the input reads as it did. -/
def slotTellsSpec : ChangeSpec := { name := "slotTells", fn := fun _ => fun
  | [d1, d2, d3, d4, d5] => { results := [.lit (.bool true)], args := [d1, d2, d3, d4, d5] }
  | _ => none }
def slotTellsRow : OpenClaim := { program := "ytmacgmmjgdmleaa", sum := "3e1c7eff020f675944e12479de3ca1a2554e22117564b5759c6f378507b891c8", func := "raddle/raddlelaw18.SlotTells", spec := "slotTells", unfollowed := true, recurses := true, plainKeys := false, apart := false }
def SlotTellsSaid : Prop := slotTellsRow.holds Try.pinned (OpenSpec.ofChange slotTellsSpec)

/-- ITS FALSE NEIGHBOUR: 'it returns false'. Refute it at one input. -/
def slotTellsWrong : ChangeSpec := { name := "slotTells", fn := fun _ => fun
  | [d1, d2, d3, d4, d5] => { results := [.lit (.bool false)], args := [d1, d2, d3, d4, d5] }
  | _ => none }
def SlotTellsWrongFalsely : Prop := slotTellsRow.holds Try.pinned (OpenSpec.ofChange slotTellsWrong)

/-- 'raddlelaw22.StateParses': WHATEVER THE INPUT: true; the input reads as it did. -/
def stateParsesSpec : ChangeSpec := { name := "stateParses", fn := fun _ => fun
  | [d1, d2] => { results := [.lit (.bool true)], args := [d1, d2] }
  | _ => none }
def stateParsesRow : OpenClaim := { program := "ytmacgmmjgdmleaa", sum := "3e1c7eff020f675944e12479de3ca1a2554e22117564b5759c6f378507b891c8", func := "raddle/raddlelaw22.StateParses", spec := "stateParses", unfollowed := true, recurses := true, plainKeys := false, apart := false }
def StateParsesSaid : Prop := stateParsesRow.holds Try.pinned (OpenSpec.ofChange stateParsesSpec)

/-- ITS FALSE NEIGHBOUR: 'it returns false'. Refute it at one input. -/
def stateParsesWrong : ChangeSpec := { name := "stateParses", fn := fun _ => fun
  | [d1, d2] => { results := [.lit (.bool false)], args := [d1, d2] }
  | _ => none }
def StateParsesWrongFalsely : Prop := stateParsesRow.holds Try.pinned (OpenSpec.ofChange stateParsesWrong)

/-- 'raddlelaw22.StateBack': WHATEVER THE INPUT: true; the input reads as it did. -/
def stateBackSpec : ChangeSpec := { name := "stateBack", fn := fun _ => fun
  | [d1, d2, d3] => { results := [.lit (.bool true)], args := [d1, d2, d3] }
  | _ => none }
def stateBackRow : OpenClaim := { program := "ytmacgmmjgdmleaa", sum := "3e1c7eff020f675944e12479de3ca1a2554e22117564b5759c6f378507b891c8", func := "raddle/raddlelaw22.StateBack", spec := "stateBack", unfollowed := true, recurses := true, plainKeys := false, apart := false }
def StateBackSaid : Prop := stateBackRow.holds Try.pinned (OpenSpec.ofChange stateBackSpec)

/-- ITS FALSE NEIGHBOUR: 'it returns false'. Refute it at one input. -/
def stateBackWrong : ChangeSpec := { name := "stateBack", fn := fun _ => fun
  | [d1, d2, d3] => { results := [.lit (.bool false)], args := [d1, d2, d3] }
  | _ => none }
def StateBackWrongFalsely : Prop := stateBackRow.holds Try.pinned (OpenSpec.ofChange stateBackWrong)

/-- 'raddlelaw10.PoolGone': WHATEVER THE INPUT: true; the input reads as it did. -/
def poolGoneSpec : ChangeSpec := { name := "poolGone", fn := fun _ => fun
  | [d1, d2, d3] => { results := [.lit (.bool true)], args := [d1, d2, d3] }
  | _ => none }
def poolGoneRow : OpenClaim := { program := "ytmacgmmjgdmleaa", sum := "3e1c7eff020f675944e12479de3ca1a2554e22117564b5759c6f378507b891c8", func := "raddle/raddlelaw10.PoolGone", spec := "poolGone", unfollowed := true, recurses := true, plainKeys := false, apart := false }
def PoolGoneSaid : Prop := poolGoneRow.holds Try.pinned (OpenSpec.ofChange poolGoneSpec)

/-- ITS FALSE NEIGHBOUR: 'it returns false'. Refute it at one input. -/
def poolGoneWrong : ChangeSpec := { name := "poolGone", fn := fun _ => fun
  | [d1, d2, d3] => { results := [.lit (.bool false)], args := [d1, d2, d3] }
  | _ => none }
def PoolGoneWrongFalsely : Prop := poolGoneRow.holds Try.pinned (OpenSpec.ofChange poolGoneWrong)

/-- 'raddlelaw10.PoolFew': WHATEVER THE INPUT: true; the input reads as it did. -/
def poolFewSpec : ChangeSpec := { name := "poolFew", fn := fun _ => fun
  | [d1, d2, d3] => { results := [.lit (.bool true)], args := [d1, d2, d3] }
  | _ => none }
def poolFewRow : OpenClaim := { program := "ytmacgmmjgdmleaa", sum := "3e1c7eff020f675944e12479de3ca1a2554e22117564b5759c6f378507b891c8", func := "raddle/raddlelaw10.PoolFew", spec := "poolFew", unfollowed := true, recurses := true, plainKeys := false, apart := false }
def PoolFewSaid : Prop := poolFewRow.holds Try.pinned (OpenSpec.ofChange poolFewSpec)

/-- ITS FALSE NEIGHBOUR: 'it returns false'. Refute it at one input. -/
def poolFewWrong : ChangeSpec := { name := "poolFew", fn := fun _ => fun
  | [d1, d2, d3] => { results := [.lit (.bool false)], args := [d1, d2, d3] }
  | _ => none }
def PoolFewWrongFalsely : Prop := poolFewRow.holds Try.pinned (OpenSpec.ofChange poolFewWrong)

/-- 'raddlelaw10.PoolFirst': WHATEVER THE INPUT: true; the input reads as it did. -/
def poolFirstSpec : ChangeSpec := { name := "poolFirst", fn := fun _ => fun
  | [d1, d2, d3] => { results := [.lit (.bool true)], args := [d1, d2, d3] }
  | _ => none }
def poolFirstRow : OpenClaim := { program := "ytmacgmmjgdmleaa", sum := "3e1c7eff020f675944e12479de3ca1a2554e22117564b5759c6f378507b891c8", func := "raddle/raddlelaw10.PoolFirst", spec := "poolFirst", unfollowed := true, recurses := true, plainKeys := false, apart := false }
def PoolFirstSaid : Prop := poolFirstRow.holds Try.pinned (OpenSpec.ofChange poolFirstSpec)

/-- ITS FALSE NEIGHBOUR: 'it returns false'. Refute it at one input. -/
def poolFirstWrong : ChangeSpec := { name := "poolFirst", fn := fun _ => fun
  | [d1, d2, d3] => { results := [.lit (.bool false)], args := [d1, d2, d3] }
  | _ => none }
def PoolFirstWrongFalsely : Prop := poolFirstRow.holds Try.pinned (OpenSpec.ofChange poolFirstWrong)

/-- 'raddlelaw10.PoolPlays': WHATEVER THE INPUT: true; the input reads as it did. -/
def poolPlaysSpec : ChangeSpec := { name := "poolPlays", fn := fun _ => fun
  | [d1, d2, d3] => { results := [.lit (.bool true)], args := [d1, d2, d3] }
  | _ => none }
def poolPlaysRow : OpenClaim := { program := "ytmacgmmjgdmleaa", sum := "3e1c7eff020f675944e12479de3ca1a2554e22117564b5759c6f378507b891c8", func := "raddle/raddlelaw10.PoolPlays", spec := "poolPlays", unfollowed := true, recurses := true, plainKeys := false, apart := false }
def PoolPlaysSaid : Prop := poolPlaysRow.holds Try.pinned (OpenSpec.ofChange poolPlaysSpec)

/-- ITS FALSE NEIGHBOUR: 'it returns false'. Refute it at one input. -/
def poolPlaysWrong : ChangeSpec := { name := "poolPlays", fn := fun _ => fun
  | [d1, d2, d3] => { results := [.lit (.bool false)], args := [d1, d2, d3] }
  | _ => none }
def PoolPlaysWrongFalsely : Prop := poolPlaysRow.holds Try.pinned (OpenSpec.ofChange poolPlaysWrong)

/-- 'raddlelaw10.PoolNobody': WHATEVER THE INPUT: true; the input reads as it did. -/
def poolNobodySpec : ChangeSpec := { name := "poolNobody", fn := fun _ => fun
  | [d] => { results := [.lit (.bool true)], args := [d] }
  | _ => none }
def poolNobodyRow : OpenClaim := { program := "ytmacgmmjgdmleaa", sum := "3e1c7eff020f675944e12479de3ca1a2554e22117564b5759c6f378507b891c8", func := "raddle/raddlelaw10.PoolNobody", spec := "poolNobody", unfollowed := true, recurses := true, plainKeys := false, apart := false }
def PoolNobodySaid : Prop := poolNobodyRow.holds Try.pinned (OpenSpec.ofChange poolNobodySpec)

/-- ITS FALSE NEIGHBOUR: 'it returns false'. Refute it at one input. -/
def poolNobodyWrong : ChangeSpec := { name := "poolNobody", fn := fun _ => fun
  | [d] => { results := [.lit (.bool false)], args := [d] }
  | _ => none }
def PoolNobodyWrongFalsely : Prop := poolNobodyRow.holds Try.pinned (OpenSpec.ofChange poolNobodyWrong)

/-- 'raddlelaw12.EpochTells': WHATEVER THE INPUT: true; the input reads as it did. -/
def epochTellsSpec : ChangeSpec := { name := "epochTells", fn := fun _ => fun
  | [d1, d2, d3, d4, d5] => { results := [.lit (.bool true)], args := [d1, d2, d3, d4, d5] }
  | _ => none }
def epochTellsRow : OpenClaim := { program := "ytmacgmmjgdmleaa", sum := "3e1c7eff020f675944e12479de3ca1a2554e22117564b5759c6f378507b891c8", func := "raddle/raddlelaw12.EpochTells", spec := "epochTells", unfollowed := true, recurses := true, plainKeys := false, apart := false }
def EpochTellsSaid : Prop := epochTellsRow.holds Try.pinned (OpenSpec.ofChange epochTellsSpec)

/-- ITS FALSE NEIGHBOUR: 'it returns false'. Refute it at one input. -/
def epochTellsWrong : ChangeSpec := { name := "epochTells", fn := fun _ => fun
  | [d1, d2, d3, d4, d5] => { results := [.lit (.bool false)], args := [d1, d2, d3, d4, d5] }
  | _ => none }
def EpochTellsWrongFalsely : Prop := epochTellsRow.holds Try.pinned (OpenSpec.ofChange epochTellsWrong)

/-- 'raddlelaw22.StateTells': WHATEVER THE INPUT: true; the input reads as it did. -/
def stateTellsSpec : ChangeSpec := { name := "stateTells", fn := fun _ => fun
  | [d1, d2, d3] => { results := [.lit (.bool true)], args := [d1, d2, d3] }
  | _ => none }
def stateTellsRow : OpenClaim := { program := "ytmacgmmjgdmleaa", sum := "3e1c7eff020f675944e12479de3ca1a2554e22117564b5759c6f378507b891c8", func := "raddle/raddlelaw22.StateTells", spec := "stateTells", unfollowed := true, recurses := true, plainKeys := false, apart := false }
def StateTellsSaid : Prop := stateTellsRow.holds Try.pinned (OpenSpec.ofChange stateTellsSpec)

/-- ITS FALSE NEIGHBOUR: 'it returns false'. Refute it at one input. -/
def stateTellsWrong : ChangeSpec := { name := "stateTells", fn := fun _ => fun
  | [d1, d2, d3] => { results := [.lit (.bool false)], args := [d1, d2, d3] }
  | _ => none }
def StateTellsWrongFalsely : Prop := stateTellsRow.holds Try.pinned (OpenSpec.ofChange stateTellsWrong)

/- THE SECOND FORM. 'bulk': how many values and letters a reading holds, each counted each time it is reached (what is shared counts as often as it is met; a slice's spare places count too). A statement '..UptoSaid' is the law's where the arguments, and the package variables that the reading takes, are together of bulk at most 1048576: NARROWER than '..Said'. Prove '..Said' where nothing that the law and all that it calls make is longer than what came in: it says more and counts as full. Else prove '..UptoSaid'. A law counts once. -/
mutual
def uptoBulk {H : Type} : DataW H → Nat
  | .lit (.string bytes) => bytes.length + 1
  | .lit _ => 1
  | .nil => 1
  | .ptr d => uptoBulk d + 1
  | .slice elems spare => uptoBulkAll elems + uptoBulkAll spare + 1
  | .agg parts => uptoBulkAll parts + 1
  | .iface _ d => uptoBulk d + 1
  | .map entries => uptoBulkEntries entries + 1
  | .held _ => 1
def uptoBulkAll {H : Type} : List (DataW H) → Nat
  | [] => 0
  | d :: r => uptoBulk d + uptoBulkAll r
def uptoBulkEntries {H : Type} : List (Lit × DataW H) → Nat
  | [] => 0
  | x :: r => uptoBulkEntry x + uptoBulkEntries r
def uptoBulkEntry {H : Type} : Lit × DataW H → Nat
  | (.string bytes, d) => bytes.length + uptoBulk d + 1
  | (_, d) => uptoBulk d + 1
 end
def uptoSmall : (H : Type) → List (DataW H) → Bool := fun _ ds => decide (uptoBulkAll ds ≤ 1048576)
def OpenSpec.upto (s : _root_.Go.ChangeSpec) : _root_.Go.OpenSpec := { _root_.Go.OpenSpec.ofChange s with cond := some uptoSmall }

/-- 'raddlelaw18.SlotOnce', WHERE WHAT IT READS IS OF BULK AT MOST 1048576: true; the input reads as it did. -/
def slotOnceUptoRow : OpenClaim := { program := "ytmacgmmjgdmleaa", sum := "3e1c7eff020f675944e12479de3ca1a2554e22117564b5759c6f378507b891c8", func := "raddle/raddlelaw18.SlotOnce", spec := "slotOnce", unfollowed := true, recurses := true, plainKeys := false, apart := false, narrowed := true }
def SlotOnceUptoSaid : Prop := slotOnceUptoRow.holds Try.pinned (OpenSpec.upto slotOnceSpec)

/-- 'raddlelaw18.SlotTells', WHERE WHAT IT READS IS OF BULK AT MOST 1048576: true; the input reads as it did. -/
def slotTellsUptoRow : OpenClaim := { program := "ytmacgmmjgdmleaa", sum := "3e1c7eff020f675944e12479de3ca1a2554e22117564b5759c6f378507b891c8", func := "raddle/raddlelaw18.SlotTells", spec := "slotTells", unfollowed := true, recurses := true, plainKeys := false, apart := false, narrowed := true }
def SlotTellsUptoSaid : Prop := slotTellsUptoRow.holds Try.pinned (OpenSpec.upto slotTellsSpec)

/-- 'raddlelaw22.StateParses', WHERE WHAT IT READS IS OF BULK AT MOST 1048576: true; the input reads as it did. -/
def stateParsesUptoRow : OpenClaim := { program := "ytmacgmmjgdmleaa", sum := "3e1c7eff020f675944e12479de3ca1a2554e22117564b5759c6f378507b891c8", func := "raddle/raddlelaw22.StateParses", spec := "stateParses", unfollowed := true, recurses := true, plainKeys := false, apart := false, narrowed := true }
def StateParsesUptoSaid : Prop := stateParsesUptoRow.holds Try.pinned (OpenSpec.upto stateParsesSpec)

/-- 'raddlelaw22.StateBack', WHERE WHAT IT READS IS OF BULK AT MOST 1048576: true; the input reads as it did. -/
def stateBackUptoRow : OpenClaim := { program := "ytmacgmmjgdmleaa", sum := "3e1c7eff020f675944e12479de3ca1a2554e22117564b5759c6f378507b891c8", func := "raddle/raddlelaw22.StateBack", spec := "stateBack", unfollowed := true, recurses := true, plainKeys := false, apart := false, narrowed := true }
def StateBackUptoSaid : Prop := stateBackUptoRow.holds Try.pinned (OpenSpec.upto stateBackSpec)

/-- 'raddlelaw10.PoolGone', WHERE WHAT IT READS IS OF BULK AT MOST 1048576: true; the input reads as it did. -/
def poolGoneUptoRow : OpenClaim := { program := "ytmacgmmjgdmleaa", sum := "3e1c7eff020f675944e12479de3ca1a2554e22117564b5759c6f378507b891c8", func := "raddle/raddlelaw10.PoolGone", spec := "poolGone", unfollowed := true, recurses := true, plainKeys := false, apart := false, narrowed := true }
def PoolGoneUptoSaid : Prop := poolGoneUptoRow.holds Try.pinned (OpenSpec.upto poolGoneSpec)

/-- 'raddlelaw10.PoolFew', WHERE WHAT IT READS IS OF BULK AT MOST 1048576: true; the input reads as it did. -/
def poolFewUptoRow : OpenClaim := { program := "ytmacgmmjgdmleaa", sum := "3e1c7eff020f675944e12479de3ca1a2554e22117564b5759c6f378507b891c8", func := "raddle/raddlelaw10.PoolFew", spec := "poolFew", unfollowed := true, recurses := true, plainKeys := false, apart := false, narrowed := true }
def PoolFewUptoSaid : Prop := poolFewUptoRow.holds Try.pinned (OpenSpec.upto poolFewSpec)

/-- 'raddlelaw10.PoolFirst', WHERE WHAT IT READS IS OF BULK AT MOST 1048576: true; the input reads as it did. -/
def poolFirstUptoRow : OpenClaim := { program := "ytmacgmmjgdmleaa", sum := "3e1c7eff020f675944e12479de3ca1a2554e22117564b5759c6f378507b891c8", func := "raddle/raddlelaw10.PoolFirst", spec := "poolFirst", unfollowed := true, recurses := true, plainKeys := false, apart := false, narrowed := true }
def PoolFirstUptoSaid : Prop := poolFirstUptoRow.holds Try.pinned (OpenSpec.upto poolFirstSpec)

/-- 'raddlelaw10.PoolPlays', WHERE WHAT IT READS IS OF BULK AT MOST 1048576: true; the input reads as it did. -/
def poolPlaysUptoRow : OpenClaim := { program := "ytmacgmmjgdmleaa", sum := "3e1c7eff020f675944e12479de3ca1a2554e22117564b5759c6f378507b891c8", func := "raddle/raddlelaw10.PoolPlays", spec := "poolPlays", unfollowed := true, recurses := true, plainKeys := false, apart := false, narrowed := true }
def PoolPlaysUptoSaid : Prop := poolPlaysUptoRow.holds Try.pinned (OpenSpec.upto poolPlaysSpec)

/-- 'raddlelaw10.PoolNobody', WHERE WHAT IT READS IS OF BULK AT MOST 1048576: true; the input reads as it did. -/
def poolNobodyUptoRow : OpenClaim := { program := "ytmacgmmjgdmleaa", sum := "3e1c7eff020f675944e12479de3ca1a2554e22117564b5759c6f378507b891c8", func := "raddle/raddlelaw10.PoolNobody", spec := "poolNobody", unfollowed := true, recurses := true, plainKeys := false, apart := false, narrowed := true }
def PoolNobodyUptoSaid : Prop := poolNobodyUptoRow.holds Try.pinned (OpenSpec.upto poolNobodySpec)

/-- 'raddlelaw12.EpochTells', WHERE WHAT IT READS IS OF BULK AT MOST 1048576: true; the input reads as it did. -/
def epochTellsUptoRow : OpenClaim := { program := "ytmacgmmjgdmleaa", sum := "3e1c7eff020f675944e12479de3ca1a2554e22117564b5759c6f378507b891c8", func := "raddle/raddlelaw12.EpochTells", spec := "epochTells", unfollowed := true, recurses := true, plainKeys := false, apart := false, narrowed := true }
def EpochTellsUptoSaid : Prop := epochTellsUptoRow.holds Try.pinned (OpenSpec.upto epochTellsSpec)

/-- 'raddlelaw22.StateTells', WHERE WHAT IT READS IS OF BULK AT MOST 1048576: true; the input reads as it did. -/
def stateTellsUptoRow : OpenClaim := { program := "ytmacgmmjgdmleaa", sum := "3e1c7eff020f675944e12479de3ca1a2554e22117564b5759c6f378507b891c8", func := "raddle/raddlelaw22.StateTells", spec := "stateTells", unfollowed := true, recurses := true, plainKeys := false, apart := false, narrowed := true }
def StateTellsUptoSaid : Prop := stateTellsUptoRow.holds Try.pinned (OpenSpec.upto stateTellsSpec)

end Rows
end Go.Proofs.Ytmacgmmjgdmleaa
