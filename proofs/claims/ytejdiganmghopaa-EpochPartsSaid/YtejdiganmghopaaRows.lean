/-
  No cell of these rows narrows 'for every input' (looked for: loops, veiled, ifaces, maps, wideKeys, modest, calm, conditions, laid).
  DERIVED. THE GIVEN ROWS OF THIS SEAT. 12 by the template 'for every input the law returns true; each argument reads behind the call as it read before'; 0 by the template 'total and deterministic' (their statements: YtejdiganmghopaaTotals.lean).
  GIVEN WITH THE SEED: the statements are not yours to turn. If you find one false, say at which input.
  Laid BY PROGRAM, IN A SANDBOX (cutbox-rows.mjs): the forced cells as the released guide's own fill.sh prints them over the translation af0ebdbb55c65631… (all of the seat's roots in one cut). By AI agents, Wed Nov 11 2026. No macro, syntax, notation, axiom, sorry.
-/
import Derived.Test.YtejdiganmghopaaChecked
import GoSem.Claim
import GoSem.ClaimJoined
import GoSem.ClaimMapViews
import Derived.JoinedTies
import Derived.KernelRfl
namespace Go.Proofs.Ytejdiganmghopaa
/- THE CELL 'sum', in the pinned program and in every row, IS THE sha256 OF THE DUMP (.gsa) THAT YtejdiganmghopaaProg.lean LOADS. Nothing in Lean hashes anything: it is a label: what it is worth is what the hold of that sum in a sandbox is worth. -/
noncomputable def Try.pinned : Pinned := { name := "ytejdiganmghopaa", sum := "af0ebdbb55c65631ec3985caf6360d72ef9414a033e9a25f54addc57e46dae01", checked := Try.checked }
namespace Rows
def none {H : Type} : Left H := { results := [], args := [] }

/-- 'raddlelaw04.SealMacs': WHATEVER THE INPUT: true; the input reads as it did. -/
def sealMacsSpec : ChangeSpec := { name := "sealMacs", fn := fun _ => fun
  | [d1, d2, d3] => { results := [.lit (.bool true)], args := [d1, d2, d3] }
  | _ => none }
def sealMacsRow : OpenClaim := { program := "ytejdiganmghopaa", sum := "af0ebdbb55c65631ec3985caf6360d72ef9414a033e9a25f54addc57e46dae01", func := "raddle/raddlelaw04.SealMacs", spec := "sealMacs", unfollowed := true, recurses := true, plainKeys := false, apart := false }
def SealMacsSaid : Prop := sealMacsRow.holds Try.pinned (OpenSpec.ofChange sealMacsSpec)

/-- ITS FALSE NEIGHBOUR: 'it returns false'. Refute it at one input. -/
def sealMacsWrong : ChangeSpec := { name := "sealMacs", fn := fun _ => fun
  | [d1, d2, d3] => { results := [.lit (.bool false)], args := [d1, d2, d3] }
  | _ => none }
def SealMacsWrongFalsely : Prop := sealMacsRow.holds Try.pinned (OpenSpec.ofChange sealMacsWrong)

/-- 'raddlelaw12.EpochMakes': WHATEVER THE INPUT: true; the input reads as it did. -/
def epochMakesSpec : ChangeSpec := { name := "epochMakes", fn := fun _ => fun
  | [d1, d2, d3, d4] => { results := [.lit (.bool true)], args := [d1, d2, d3, d4] }
  | _ => none }
def epochMakesRow : OpenClaim := { program := "ytejdiganmghopaa", sum := "af0ebdbb55c65631ec3985caf6360d72ef9414a033e9a25f54addc57e46dae01", func := "raddle/raddlelaw12.EpochMakes", spec := "epochMakes", unfollowed := true, recurses := true, plainKeys := false, apart := false }
def EpochMakesSaid : Prop := epochMakesRow.holds Try.pinned (OpenSpec.ofChange epochMakesSpec)

/-- ITS FALSE NEIGHBOUR: 'it returns false'. Refute it at one input. -/
def epochMakesWrong : ChangeSpec := { name := "epochMakes", fn := fun _ => fun
  | [d1, d2, d3, d4] => { results := [.lit (.bool false)], args := [d1, d2, d3, d4] }
  | _ => none }
def EpochMakesWrongFalsely : Prop := epochMakesRow.holds Try.pinned (OpenSpec.ofChange epochMakesWrong)

/-- 'raddlelaw12.EpochParts': WHATEVER THE INPUT: true; the input reads as it did. -/
def epochPartsSpec : ChangeSpec := { name := "epochParts", fn := fun _ => fun
  | [d] => { results := [.lit (.bool true)], args := [d] }
  | _ => none }
def epochPartsRow : OpenClaim := { program := "ytejdiganmghopaa", sum := "af0ebdbb55c65631ec3985caf6360d72ef9414a033e9a25f54addc57e46dae01", func := "raddle/raddlelaw12.EpochParts", spec := "epochParts", unfollowed := true, recurses := true, plainKeys := false, apart := false }
def EpochPartsSaid : Prop := epochPartsRow.holds Try.pinned (OpenSpec.ofChange epochPartsSpec)

/-- ITS FALSE NEIGHBOUR: 'it returns false'. Refute it at one input. -/
def epochPartsWrong : ChangeSpec := { name := "epochParts", fn := fun _ => fun
  | [d] => { results := [.lit (.bool false)], args := [d] }
  | _ => none }
def EpochPartsWrongFalsely : Prop := epochPartsRow.holds Try.pinned (OpenSpec.ofChange epochPartsWrong)

/-- 'raddlelaw12.EpochTurn': WHATEVER THE INPUT: true; the input reads as it did. -/
def epochTurnSpec : ChangeSpec := { name := "epochTurn", fn := fun _ => fun
  | [d1, d2, d3] => { results := [.lit (.bool true)], args := [d1, d2, d3] }
  | _ => none }
def epochTurnRow : OpenClaim := { program := "ytejdiganmghopaa", sum := "af0ebdbb55c65631ec3985caf6360d72ef9414a033e9a25f54addc57e46dae01", func := "raddle/raddlelaw12.EpochTurn", spec := "epochTurn", unfollowed := true, recurses := true, plainKeys := false, apart := false }
def EpochTurnSaid : Prop := epochTurnRow.holds Try.pinned (OpenSpec.ofChange epochTurnSpec)

/-- ITS FALSE NEIGHBOUR: 'it returns false'. Refute it at one input. -/
def epochTurnWrong : ChangeSpec := { name := "epochTurn", fn := fun _ => fun
  | [d1, d2, d3] => { results := [.lit (.bool false)], args := [d1, d2, d3] }
  | _ => none }
def EpochTurnWrongFalsely : Prop := epochTurnRow.holds Try.pinned (OpenSpec.ofChange epochTurnWrong)

/-- 'raddlelaw01.TallyReads': WHATEVER THE INPUT: true; the input reads as it did. -/
def tallyReadsSpec : ChangeSpec := { name := "tallyReads", fn := fun _ => fun
  | [d1, d2] => { results := [.lit (.bool true)], args := [d1, d2] }
  | _ => none }
def tallyReadsRow : OpenClaim := { program := "ytejdiganmghopaa", sum := "af0ebdbb55c65631ec3985caf6360d72ef9414a033e9a25f54addc57e46dae01", func := "raddle/raddlelaw01.TallyReads", spec := "tallyReads", plainKeys := false, apart := false }
def TallyReadsSaid : Prop := tallyReadsRow.holds Try.pinned (OpenSpec.ofChange tallyReadsSpec)

/-- ITS FALSE NEIGHBOUR: 'it returns false'. Refute it at one input. -/
def tallyReadsWrong : ChangeSpec := { name := "tallyReads", fn := fun _ => fun
  | [d1, d2] => { results := [.lit (.bool false)], args := [d1, d2] }
  | _ => none }
def TallyReadsWrongFalsely : Prop := tallyReadsRow.holds Try.pinned (OpenSpec.ofChange tallyReadsWrong)

/-- 'raddlelaw07.BatchApart': WHATEVER THE INPUT: true; the input reads as it did. -/
def batchApartSpec : ChangeSpec := { name := "batchApart", fn := fun _ => fun
  | [d1, d2] => { results := [.lit (.bool true)], args := [d1, d2] }
  | _ => none }
def batchApartRow : OpenClaim := { program := "ytejdiganmghopaa", sum := "af0ebdbb55c65631ec3985caf6360d72ef9414a033e9a25f54addc57e46dae01", func := "raddle/raddlelaw07.BatchApart", spec := "batchApart", unfollowed := true, recurses := true, plainKeys := false, apart := false }
def BatchApartSaid : Prop := batchApartRow.holds Try.pinned (OpenSpec.ofChange batchApartSpec)

/-- ITS FALSE NEIGHBOUR: 'it returns false'. Refute it at one input. -/
def batchApartWrong : ChangeSpec := { name := "batchApart", fn := fun _ => fun
  | [d1, d2] => { results := [.lit (.bool false)], args := [d1, d2] }
  | _ => none }
def BatchApartWrongFalsely : Prop := batchApartRow.holds Try.pinned (OpenSpec.ofChange batchApartWrong)

/-- 'raddlelaw07.BatchMeets': WHATEVER THE INPUT: true; the input reads as it did. -/
def batchMeetsSpec : ChangeSpec := { name := "batchMeets", fn := fun _ => fun
  | [d1, d2] => { results := [.lit (.bool true)], args := [d1, d2] }
  | _ => none }
def batchMeetsRow : OpenClaim := { program := "ytejdiganmghopaa", sum := "af0ebdbb55c65631ec3985caf6360d72ef9414a033e9a25f54addc57e46dae01", func := "raddle/raddlelaw07.BatchMeets", spec := "batchMeets", unfollowed := true, recurses := true, plainKeys := false, apart := false }
def BatchMeetsSaid : Prop := batchMeetsRow.holds Try.pinned (OpenSpec.ofChange batchMeetsSpec)

/-- ITS FALSE NEIGHBOUR: 'it returns false'. Refute it at one input. -/
def batchMeetsWrong : ChangeSpec := { name := "batchMeets", fn := fun _ => fun
  | [d1, d2] => { results := [.lit (.bool false)], args := [d1, d2] }
  | _ => none }
def BatchMeetsWrongFalsely : Prop := batchMeetsRow.holds Try.pinned (OpenSpec.ofChange batchMeetsWrong)

/-- 'raddlelaw18.SlotHolds': WHATEVER THE INPUT: true; the input reads as it did. -/
def slotHoldsSpec : ChangeSpec := { name := "slotHolds", fn := fun _ => fun
  | [d1, d2, d3, d4] => { results := [.lit (.bool true)], args := [d1, d2, d3, d4] }
  | _ => none }
def slotHoldsRow : OpenClaim := { program := "ytejdiganmghopaa", sum := "af0ebdbb55c65631ec3985caf6360d72ef9414a033e9a25f54addc57e46dae01", func := "raddle/raddlelaw18.SlotHolds", spec := "slotHolds", unfollowed := true, recurses := true, plainKeys := false, apart := false }
def SlotHoldsSaid : Prop := slotHoldsRow.holds Try.pinned (OpenSpec.ofChange slotHoldsSpec)

/-- ITS FALSE NEIGHBOUR: 'it returns false'. Refute it at one input. -/
def slotHoldsWrong : ChangeSpec := { name := "slotHolds", fn := fun _ => fun
  | [d1, d2, d3, d4] => { results := [.lit (.bool false)], args := [d1, d2, d3, d4] }
  | _ => none }
def SlotHoldsWrongFalsely : Prop := slotHoldsRow.holds Try.pinned (OpenSpec.ofChange slotHoldsWrong)

/-- 'raddlelaw04.SealNobody': WHATEVER THE INPUT: true; the input reads as it did. -/
def sealNobodySpec : ChangeSpec := { name := "sealNobody", fn := fun _ => fun
  | [d1, d2, d3] => { results := [.lit (.bool true)], args := [d1, d2, d3] }
  | _ => none }
def sealNobodyRow : OpenClaim := { program := "ytejdiganmghopaa", sum := "af0ebdbb55c65631ec3985caf6360d72ef9414a033e9a25f54addc57e46dae01", func := "raddle/raddlelaw04.SealNobody", spec := "sealNobody", unfollowed := true, recurses := true, plainKeys := false, apart := false }
def SealNobodySaid : Prop := sealNobodyRow.holds Try.pinned (OpenSpec.ofChange sealNobodySpec)

/-- ITS FALSE NEIGHBOUR: 'it returns false'. Refute it at one input. -/
def sealNobodyWrong : ChangeSpec := { name := "sealNobody", fn := fun _ => fun
  | [d1, d2, d3] => { results := [.lit (.bool false)], args := [d1, d2, d3] }
  | _ => none }
def SealNobodyWrongFalsely : Prop := sealNobodyRow.holds Try.pinned (OpenSpec.ofChange sealNobodyWrong)

/-- 'raddlelaw04.SealSigns': WHATEVER THE INPUT: true; the input reads as it did. -/
def sealSignsSpec : ChangeSpec := { name := "sealSigns", fn := fun _ => fun
  | [d1, d2, d3, d4, d5] => { results := [.lit (.bool true)], args := [d1, d2, d3, d4, d5] }
  | _ => none }
def sealSignsRow : OpenClaim := { program := "ytejdiganmghopaa", sum := "af0ebdbb55c65631ec3985caf6360d72ef9414a033e9a25f54addc57e46dae01", func := "raddle/raddlelaw04.SealSigns", spec := "sealSigns", unfollowed := true, recurses := true, plainKeys := false, apart := false }
def SealSignsSaid : Prop := sealSignsRow.holds Try.pinned (OpenSpec.ofChange sealSignsSpec)

/-- ITS FALSE NEIGHBOUR: 'it returns false'. Refute it at one input. -/
def sealSignsWrong : ChangeSpec := { name := "sealSigns", fn := fun _ => fun
  | [d1, d2, d3, d4, d5] => { results := [.lit (.bool false)], args := [d1, d2, d3, d4, d5] }
  | _ => none }
def SealSignsWrongFalsely : Prop := sealSignsRow.holds Try.pinned (OpenSpec.ofChange sealSignsWrong)

/-- 'raddlelaw04.SealOwn': WHATEVER THE INPUT: true; the input reads as it did. -/
def sealOwnSpec : ChangeSpec := { name := "sealOwn", fn := fun _ => fun
  | [d1, d2, d3, d4, d5] => { results := [.lit (.bool true)], args := [d1, d2, d3, d4, d5] }
  | _ => none }
def sealOwnRow : OpenClaim := { program := "ytejdiganmghopaa", sum := "af0ebdbb55c65631ec3985caf6360d72ef9414a033e9a25f54addc57e46dae01", func := "raddle/raddlelaw04.SealOwn", spec := "sealOwn", unfollowed := true, recurses := true, plainKeys := false, apart := false }
def SealOwnSaid : Prop := sealOwnRow.holds Try.pinned (OpenSpec.ofChange sealOwnSpec)

/-- ITS FALSE NEIGHBOUR: 'it returns false'. Refute it at one input. -/
def sealOwnWrong : ChangeSpec := { name := "sealOwn", fn := fun _ => fun
  | [d1, d2, d3, d4, d5] => { results := [.lit (.bool false)], args := [d1, d2, d3, d4, d5] }
  | _ => none }
def SealOwnWrongFalsely : Prop := sealOwnRow.holds Try.pinned (OpenSpec.ofChange sealOwnWrong)

/-- 'raddlelaw04.SealApart': WHATEVER THE INPUT: true; the input reads as it did. -/
def sealApartSpec : ChangeSpec := { name := "sealApart", fn := fun _ => fun
  | [d1, d2, d3, d4, d5] => { results := [.lit (.bool true)], args := [d1, d2, d3, d4, d5] }
  | _ => none }
def sealApartRow : OpenClaim := { program := "ytejdiganmghopaa", sum := "af0ebdbb55c65631ec3985caf6360d72ef9414a033e9a25f54addc57e46dae01", func := "raddle/raddlelaw04.SealApart", spec := "sealApart", unfollowed := true, recurses := true, plainKeys := false, apart := false }
def SealApartSaid : Prop := sealApartRow.holds Try.pinned (OpenSpec.ofChange sealApartSpec)

/-- ITS FALSE NEIGHBOUR: 'it returns false'. Refute it at one input. -/
def sealApartWrong : ChangeSpec := { name := "sealApart", fn := fun _ => fun
  | [d1, d2, d3, d4, d5] => { results := [.lit (.bool false)], args := [d1, d2, d3, d4, d5] }
  | _ => none }
def SealApartWrongFalsely : Prop := sealApartRow.holds Try.pinned (OpenSpec.ofChange sealApartWrong)

/- THE SECOND FORM. 'bulk': how many values and letters a reading holds, each counted each time it is reached (what is shared counts as often as it is met; a slice's spare places count too). A statement '..UptoSaid' is the law's where the arguments, and the package variables that the reading takes, are together of bulk at most 1048576: NARROWER than '..Said'. Prove '..Said' where nothing that the law and all that it calls make is longer than what came in: it says more and counts as full. Else prove '..UptoSaid'. A law counts once. -/
mutual
def uptoBulk {H : Type} : DataW H → Nat
  | .lit (.string bytes) => bytes.length + 1
  | .lit _ => 1
  | .nil => 1
  | .ptr d => uptoBulk d + 1
  | .slice elems spare => uptoBulkAll elems + uptoBulkAll spare + 1
  | .agg parts => uptoBulkAll parts + 1
  | .iface _ d => uptoBulk d + 1
  | .map entries => uptoBulkEntries entries + 1
  | .held _ => 1
def uptoBulkAll {H : Type} : List (DataW H) → Nat
  | [] => 0
  | d :: r => uptoBulk d + uptoBulkAll r
def uptoBulkEntries {H : Type} : List (Lit × DataW H) → Nat
  | [] => 0
  | x :: r => uptoBulkEntry x + uptoBulkEntries r
def uptoBulkEntry {H : Type} : Lit × DataW H → Nat
  | (.string bytes, d) => bytes.length + uptoBulk d + 1
  | (_, d) => uptoBulk d + 1
 end
def uptoSmall : (H : Type) → List (DataW H) → Bool := fun _ ds => decide (uptoBulkAll ds ≤ 1048576)
def OpenSpec.upto (s : _root_.Go.ChangeSpec) : _root_.Go.OpenSpec := { _root_.Go.OpenSpec.ofChange s with cond := some uptoSmall }

/-- 'raddlelaw04.SealMacs', WHERE WHAT IT READS IS OF BULK AT MOST 1048576: true; the input reads as it did. -/
def sealMacsUptoRow : OpenClaim := { program := "ytejdiganmghopaa", sum := "af0ebdbb55c65631ec3985caf6360d72ef9414a033e9a25f54addc57e46dae01", func := "raddle/raddlelaw04.SealMacs", spec := "sealMacs", unfollowed := true, recurses := true, plainKeys := false, apart := false, narrowed := true }
def SealMacsUptoSaid : Prop := sealMacsUptoRow.holds Try.pinned (OpenSpec.upto sealMacsSpec)

/-- 'raddlelaw12.EpochMakes', WHERE WHAT IT READS IS OF BULK AT MOST 1048576: true; the input reads as it did. -/
def epochMakesUptoRow : OpenClaim := { program := "ytejdiganmghopaa", sum := "af0ebdbb55c65631ec3985caf6360d72ef9414a033e9a25f54addc57e46dae01", func := "raddle/raddlelaw12.EpochMakes", spec := "epochMakes", unfollowed := true, recurses := true, plainKeys := false, apart := false, narrowed := true }
def EpochMakesUptoSaid : Prop := epochMakesUptoRow.holds Try.pinned (OpenSpec.upto epochMakesSpec)

/-- 'raddlelaw12.EpochParts', WHERE WHAT IT READS IS OF BULK AT MOST 1048576: true; the input reads as it did. -/
def epochPartsUptoRow : OpenClaim := { program := "ytejdiganmghopaa", sum := "af0ebdbb55c65631ec3985caf6360d72ef9414a033e9a25f54addc57e46dae01", func := "raddle/raddlelaw12.EpochParts", spec := "epochParts", unfollowed := true, recurses := true, plainKeys := false, apart := false, narrowed := true }
def EpochPartsUptoSaid : Prop := epochPartsUptoRow.holds Try.pinned (OpenSpec.upto epochPartsSpec)

/-- 'raddlelaw12.EpochTurn', WHERE WHAT IT READS IS OF BULK AT MOST 1048576: true; the input reads as it did. -/
def epochTurnUptoRow : OpenClaim := { program := "ytejdiganmghopaa", sum := "af0ebdbb55c65631ec3985caf6360d72ef9414a033e9a25f54addc57e46dae01", func := "raddle/raddlelaw12.EpochTurn", spec := "epochTurn", unfollowed := true, recurses := true, plainKeys := false, apart := false, narrowed := true }
def EpochTurnUptoSaid : Prop := epochTurnUptoRow.holds Try.pinned (OpenSpec.upto epochTurnSpec)

/-- 'raddlelaw01.TallyReads', WHERE WHAT IT READS IS OF BULK AT MOST 1048576: true; the input reads as it did. -/
def tallyReadsUptoRow : OpenClaim := { program := "ytejdiganmghopaa", sum := "af0ebdbb55c65631ec3985caf6360d72ef9414a033e9a25f54addc57e46dae01", func := "raddle/raddlelaw01.TallyReads", spec := "tallyReads", plainKeys := false, apart := false, narrowed := true }
def TallyReadsUptoSaid : Prop := tallyReadsUptoRow.holds Try.pinned (OpenSpec.upto tallyReadsSpec)

/-- 'raddlelaw07.BatchApart', WHERE WHAT IT READS IS OF BULK AT MOST 1048576: true; the input reads as it did. -/
def batchApartUptoRow : OpenClaim := { program := "ytejdiganmghopaa", sum := "af0ebdbb55c65631ec3985caf6360d72ef9414a033e9a25f54addc57e46dae01", func := "raddle/raddlelaw07.BatchApart", spec := "batchApart", unfollowed := true, recurses := true, plainKeys := false, apart := false, narrowed := true }
def BatchApartUptoSaid : Prop := batchApartUptoRow.holds Try.pinned (OpenSpec.upto batchApartSpec)

/-- 'raddlelaw07.BatchMeets', WHERE WHAT IT READS IS OF BULK AT MOST 1048576: true; the input reads as it did. -/
def batchMeetsUptoRow : OpenClaim := { program := "ytejdiganmghopaa", sum := "af0ebdbb55c65631ec3985caf6360d72ef9414a033e9a25f54addc57e46dae01", func := "raddle/raddlelaw07.BatchMeets", spec := "batchMeets", unfollowed := true, recurses := true, plainKeys := false, apart := false, narrowed := true }
def BatchMeetsUptoSaid : Prop := batchMeetsUptoRow.holds Try.pinned (OpenSpec.upto batchMeetsSpec)

/-- 'raddlelaw18.SlotHolds', WHERE WHAT IT READS IS OF BULK AT MOST 1048576: true; the input reads as it did. -/
def slotHoldsUptoRow : OpenClaim := { program := "ytejdiganmghopaa", sum := "af0ebdbb55c65631ec3985caf6360d72ef9414a033e9a25f54addc57e46dae01", func := "raddle/raddlelaw18.SlotHolds", spec := "slotHolds", unfollowed := true, recurses := true, plainKeys := false, apart := false, narrowed := true }
def SlotHoldsUptoSaid : Prop := slotHoldsUptoRow.holds Try.pinned (OpenSpec.upto slotHoldsSpec)

/-- 'raddlelaw04.SealNobody', WHERE WHAT IT READS IS OF BULK AT MOST 1048576: true; the input reads as it did. -/
def sealNobodyUptoRow : OpenClaim := { program := "ytejdiganmghopaa", sum := "af0ebdbb55c65631ec3985caf6360d72ef9414a033e9a25f54addc57e46dae01", func := "raddle/raddlelaw04.SealNobody", spec := "sealNobody", unfollowed := true, recurses := true, plainKeys := false, apart := false, narrowed := true }
def SealNobodyUptoSaid : Prop := sealNobodyUptoRow.holds Try.pinned (OpenSpec.upto sealNobodySpec)

/-- 'raddlelaw04.SealSigns', WHERE WHAT IT READS IS OF BULK AT MOST 1048576: true; the input reads as it did. -/
def sealSignsUptoRow : OpenClaim := { program := "ytejdiganmghopaa", sum := "af0ebdbb55c65631ec3985caf6360d72ef9414a033e9a25f54addc57e46dae01", func := "raddle/raddlelaw04.SealSigns", spec := "sealSigns", unfollowed := true, recurses := true, plainKeys := false, apart := false, narrowed := true }
def SealSignsUptoSaid : Prop := sealSignsUptoRow.holds Try.pinned (OpenSpec.upto sealSignsSpec)

/-- 'raddlelaw04.SealOwn', WHERE WHAT IT READS IS OF BULK AT MOST 1048576: true; the input reads as it did. -/
def sealOwnUptoRow : OpenClaim := { program := "ytejdiganmghopaa", sum := "af0ebdbb55c65631ec3985caf6360d72ef9414a033e9a25f54addc57e46dae01", func := "raddle/raddlelaw04.SealOwn", spec := "sealOwn", unfollowed := true, recurses := true, plainKeys := false, apart := false, narrowed := true }
def SealOwnUptoSaid : Prop := sealOwnUptoRow.holds Try.pinned (OpenSpec.upto sealOwnSpec)

/-- 'raddlelaw04.SealApart', WHERE WHAT IT READS IS OF BULK AT MOST 1048576: true; the input reads as it did. -/
def sealApartUptoRow : OpenClaim := { program := "ytejdiganmghopaa", sum := "af0ebdbb55c65631ec3985caf6360d72ef9414a033e9a25f54addc57e46dae01", func := "raddle/raddlelaw04.SealApart", spec := "sealApart", unfollowed := true, recurses := true, plainKeys := false, apart := false, narrowed := true }
def SealApartUptoSaid : Prop := sealApartUptoRow.holds Try.pinned (OpenSpec.upto sealApartSpec)

end Rows
end Go.Proofs.Ytejdiganmghopaa
