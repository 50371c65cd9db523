/-
  No cell of these rows narrows 'for every input' (looked for: loops, veiled, ifaces, maps, wideKeys, modest, calm, conditions, laid).
  DERIVED. THE GIVEN ROWS OF THIS SEAT. 13 by the template 'for every input the law returns true; each argument reads behind the call as it read before'; 0 by the template 'total and deterministic' (their statements: YteokeidclgfgnaaTotals.lean).
  GIVEN WITH THE SEED: the statements are not yours to turn. If you find one false, say at which input.
  Laid BY PROGRAM, IN A SANDBOX (cutbox-rows.mjs): the forced cells as the released guide's own fill.sh prints them over the translation a787b357d2ee890e… (all of the seat's roots in one cut). By AI agents, Wed Nov 11 2026. No macro, syntax, notation, axiom, sorry.
-/
import Derived.Test.YteokeidclgfgnaaChecked
import GoSem.Claim
import GoSem.ClaimJoined
import GoSem.ClaimMapViews
import Derived.JoinedTies
import Derived.KernelRfl
namespace Go.Proofs.Yteokeidclgfgnaa
/- THE CELL 'sum', in the pinned program and in every row, IS THE sha256 OF THE DUMP (.gsa) THAT YteokeidclgfgnaaProg.lean LOADS. Nothing in Lean hashes anything: it is a label: what it is worth is what the hold of that sum in a sandbox is worth. -/
noncomputable def Try.pinned : Pinned := { name := "yteokeidclgfgnaa", sum := "a787b357d2ee890e249efbb1aeed6cd90a79b10d64d835c5d6c719f5266f2708", checked := Try.checked }
namespace Rows
def none {H : Type} : Left H := { results := [], args := [] }

/-- 'raddlelaw03.DigestCuts': WHATEVER THE INPUT: true; the input reads as it did. -/
def digestCutsSpec : ChangeSpec := { name := "digestCuts", fn := fun _ => fun
  | [d1, d2] => { results := [.lit (.bool true)], args := [d1, d2] }
  | _ => none }
def digestCutsRow : OpenClaim := { program := "yteokeidclgfgnaa", sum := "a787b357d2ee890e249efbb1aeed6cd90a79b10d64d835c5d6c719f5266f2708", func := "raddle/raddlelaw03.DigestCuts", spec := "digestCuts", unfollowed := true, recurses := true, apart := false }
def DigestCutsSaid : Prop := digestCutsRow.holds Try.pinned (OpenSpec.ofChange digestCutsSpec)

/-- ITS FALSE NEIGHBOUR: 'it returns false'. Refute it at one input. -/
def digestCutsWrong : ChangeSpec := { name := "digestCuts", fn := fun _ => fun
  | [d1, d2] => { results := [.lit (.bool false)], args := [d1, d2] }
  | _ => none }
def DigestCutsWrongFalsely : Prop := digestCutsRow.holds Try.pinned (OpenSpec.ofChange digestCutsWrong)

/-- 'raddlelaw03.DigestOrder': WHATEVER THE INPUT: true; the input reads as it did. -/
def digestOrderSpec : ChangeSpec := { name := "digestOrder", fn := fun _ => fun
  | [d1, d2] => { results := [.lit (.bool true)], args := [d1, d2] }
  | _ => none }
def digestOrderRow : OpenClaim := { program := "yteokeidclgfgnaa", sum := "a787b357d2ee890e249efbb1aeed6cd90a79b10d64d835c5d6c719f5266f2708", func := "raddle/raddlelaw03.DigestOrder", spec := "digestOrder", unfollowed := true, recurses := true, apart := false }
def DigestOrderSaid : Prop := digestOrderRow.holds Try.pinned (OpenSpec.ofChange digestOrderSpec)

/-- ITS FALSE NEIGHBOUR: 'it returns false'. Refute it at one input. -/
def digestOrderWrong : ChangeSpec := { name := "digestOrder", fn := fun _ => fun
  | [d1, d2] => { results := [.lit (.bool false)], args := [d1, d2] }
  | _ => none }
def DigestOrderWrongFalsely : Prop := digestOrderRow.holds Try.pinned (OpenSpec.ofChange digestOrderWrong)

/-- 'raddlelaw03.DigestSums': WHATEVER THE INPUT: true; the input reads as it did. -/
def digestSumsSpec : ChangeSpec := { name := "digestSums", fn := fun _ => fun
  | [d1, d2] => { results := [.lit (.bool true)], args := [d1, d2] }
  | _ => none }
def digestSumsRow : OpenClaim := { program := "yteokeidclgfgnaa", sum := "a787b357d2ee890e249efbb1aeed6cd90a79b10d64d835c5d6c719f5266f2708", func := "raddle/raddlelaw03.DigestSums", spec := "digestSums", unfollowed := true, recurses := true, apart := false }
def DigestSumsSaid : Prop := digestSumsRow.holds Try.pinned (OpenSpec.ofChange digestSumsSpec)

/-- ITS FALSE NEIGHBOUR: 'it returns false'. Refute it at one input. -/
def digestSumsWrong : ChangeSpec := { name := "digestSums", fn := fun _ => fun
  | [d1, d2] => { results := [.lit (.bool false)], args := [d1, d2] }
  | _ => none }
def DigestSumsWrongFalsely : Prop := digestSumsRow.holds Try.pinned (OpenSpec.ofChange digestSumsWrong)

/-- 'raddlelaw01.TallyBack': WHATEVER THE INPUT: true; the input reads as it did. -/
def tallyBackSpec : ChangeSpec := { name := "tallyBack", fn := fun _ => fun
  | [d1, d2, d3] => { results := [.lit (.bool true)], args := [d1, d2, d3] }
  | _ => none }
def tallyBackRow : OpenClaim := { program := "yteokeidclgfgnaa", sum := "a787b357d2ee890e249efbb1aeed6cd90a79b10d64d835c5d6c719f5266f2708", func := "raddle/raddlelaw01.TallyBack", spec := "tallyBack", apart := false }
def TallyBackSaid : Prop := tallyBackRow.holds Try.pinned (OpenSpec.ofChange tallyBackSpec)

/-- ITS FALSE NEIGHBOUR: 'it returns false'. Refute it at one input. -/
def tallyBackWrong : ChangeSpec := { name := "tallyBack", fn := fun _ => fun
  | [d1, d2, d3] => { results := [.lit (.bool false)], args := [d1, d2, d3] }
  | _ => none }
def TallyBackWrongFalsely : Prop := tallyBackRow.holds Try.pinned (OpenSpec.ofChange tallyBackWrong)

/-- 'raddlelaw03.DigestShares': WHATEVER THE INPUT: true; the input reads as it did. -/
def digestSharesSpec : ChangeSpec := { name := "digestShares", fn := fun _ => fun
  | [d1, d2] => { results := [.lit (.bool true)], args := [d1, d2] }
  | _ => none }
def digestSharesRow : OpenClaim := { program := "yteokeidclgfgnaa", sum := "a787b357d2ee890e249efbb1aeed6cd90a79b10d64d835c5d6c719f5266f2708", func := "raddle/raddlelaw03.DigestShares", spec := "digestShares", unfollowed := true, recurses := true, apart := false }
def DigestSharesSaid : Prop := digestSharesRow.holds Try.pinned (OpenSpec.ofChange digestSharesSpec)

/-- ITS FALSE NEIGHBOUR: 'it returns false'. Refute it at one input. -/
def digestSharesWrong : ChangeSpec := { name := "digestShares", fn := fun _ => fun
  | [d1, d2] => { results := [.lit (.bool false)], args := [d1, d2] }
  | _ => none }
def DigestSharesWrongFalsely : Prop := digestSharesRow.holds Try.pinned (OpenSpec.ofChange digestSharesWrong)

/-- 'raddlelaw04.SealMacs': WHATEVER THE INPUT: true; the input reads as it did. -/
def sealMacsSpec : ChangeSpec := { name := "sealMacs", fn := fun _ => fun
  | [d1, d2, d3] => { results := [.lit (.bool true)], args := [d1, d2, d3] }
  | _ => none }
def sealMacsRow : OpenClaim := { program := "yteokeidclgfgnaa", sum := "a787b357d2ee890e249efbb1aeed6cd90a79b10d64d835c5d6c719f5266f2708", func := "raddle/raddlelaw04.SealMacs", spec := "sealMacs", unfollowed := true, recurses := true, apart := false }
def SealMacsSaid : Prop := sealMacsRow.holds Try.pinned (OpenSpec.ofChange sealMacsSpec)

/-- ITS FALSE NEIGHBOUR: 'it returns false'. Refute it at one input. -/
def sealMacsWrong : ChangeSpec := { name := "sealMacs", fn := fun _ => fun
  | [d1, d2, d3] => { results := [.lit (.bool false)], args := [d1, d2, d3] }
  | _ => none }
def SealMacsWrongFalsely : Prop := sealMacsRow.holds Try.pinned (OpenSpec.ofChange sealMacsWrong)

/-- 'raddlelaw03.DigestTexts': WHATEVER THE INPUT: true; the input reads as it did. -/
def digestTextsSpec : ChangeSpec := { name := "digestTexts", fn := fun _ => fun
  | [d1, d2] => { results := [.lit (.bool true)], args := [d1, d2] }
  | _ => none }
def digestTextsRow : OpenClaim := { program := "yteokeidclgfgnaa", sum := "a787b357d2ee890e249efbb1aeed6cd90a79b10d64d835c5d6c719f5266f2708", func := "raddle/raddlelaw03.DigestTexts", spec := "digestTexts", unfollowed := true, recurses := true, apart := false }
def DigestTextsSaid : Prop := digestTextsRow.holds Try.pinned (OpenSpec.ofChange digestTextsSpec)

/-- ITS FALSE NEIGHBOUR: 'it returns false'. Refute it at one input. -/
def digestTextsWrong : ChangeSpec := { name := "digestTexts", fn := fun _ => fun
  | [d1, d2] => { results := [.lit (.bool false)], args := [d1, d2] }
  | _ => none }
def DigestTextsWrongFalsely : Prop := digestTextsRow.holds Try.pinned (OpenSpec.ofChange digestTextsWrong)

/-- 'raddlelaw01.TallyReads': WHATEVER THE INPUT: true; the input reads as it did. -/
def tallyReadsSpec : ChangeSpec := { name := "tallyReads", fn := fun _ => fun
  | [d1, d2] => { results := [.lit (.bool true)], args := [d1, d2] }
  | _ => none }
def tallyReadsRow : OpenClaim := { program := "yteokeidclgfgnaa", sum := "a787b357d2ee890e249efbb1aeed6cd90a79b10d64d835c5d6c719f5266f2708", func := "raddle/raddlelaw01.TallyReads", spec := "tallyReads", apart := false }
def TallyReadsSaid : Prop := tallyReadsRow.holds Try.pinned (OpenSpec.ofChange tallyReadsSpec)

/-- ITS FALSE NEIGHBOUR: 'it returns false'. Refute it at one input. -/
def tallyReadsWrong : ChangeSpec := { name := "tallyReads", fn := fun _ => fun
  | [d1, d2] => { results := [.lit (.bool false)], args := [d1, d2] }
  | _ => none }
def TallyReadsWrongFalsely : Prop := tallyReadsRow.holds Try.pinned (OpenSpec.ofChange tallyReadsWrong)

/-- 'raddlelaw01.TallyNobody': WHATEVER THE INPUT: true; the input reads as it did. -/
def tallyNobodySpec : ChangeSpec := { name := "tallyNobody", fn := fun _ => fun
  | [d] => { results := [.lit (.bool true)], args := [d] }
  | _ => none }
def tallyNobodyRow : OpenClaim := { program := "yteokeidclgfgnaa", sum := "a787b357d2ee890e249efbb1aeed6cd90a79b10d64d835c5d6c719f5266f2708", func := "raddle/raddlelaw01.TallyNobody", spec := "tallyNobody", apart := false }
def TallyNobodySaid : Prop := tallyNobodyRow.holds Try.pinned (OpenSpec.ofChange tallyNobodySpec)

/-- ITS FALSE NEIGHBOUR: 'it returns false'. Refute it at one input. -/
def tallyNobodyWrong : ChangeSpec := { name := "tallyNobody", fn := fun _ => fun
  | [d] => { results := [.lit (.bool false)], args := [d] }
  | _ => none }
def TallyNobodyWrongFalsely : Prop := tallyNobodyRow.holds Try.pinned (OpenSpec.ofChange tallyNobodyWrong)

/-- 'raddlelaw04.SealNobody': WHATEVER THE INPUT: true; the input reads as it did. -/
def sealNobodySpec : ChangeSpec := { name := "sealNobody", fn := fun _ => fun
  | [d1, d2, d3] => { results := [.lit (.bool true)], args := [d1, d2, d3] }
  | _ => none }
def sealNobodyRow : OpenClaim := { program := "yteokeidclgfgnaa", sum := "a787b357d2ee890e249efbb1aeed6cd90a79b10d64d835c5d6c719f5266f2708", func := "raddle/raddlelaw04.SealNobody", spec := "sealNobody", unfollowed := true, recurses := true, apart := false }
def SealNobodySaid : Prop := sealNobodyRow.holds Try.pinned (OpenSpec.ofChange sealNobodySpec)

/-- ITS FALSE NEIGHBOUR: 'it returns false'. Refute it at one input. -/
def sealNobodyWrong : ChangeSpec := { name := "sealNobody", fn := fun _ => fun
  | [d1, d2, d3] => { results := [.lit (.bool false)], args := [d1, d2, d3] }
  | _ => none }
def SealNobodyWrongFalsely : Prop := sealNobodyRow.holds Try.pinned (OpenSpec.ofChange sealNobodyWrong)

/-- 'raddlelaw04.SealSigns': WHATEVER THE INPUT: true; the input reads as it did. -/
def sealSignsSpec : ChangeSpec := { name := "sealSigns", fn := fun _ => fun
  | [d1, d2, d3, d4, d5] => { results := [.lit (.bool true)], args := [d1, d2, d3, d4, d5] }
  | _ => none }
def sealSignsRow : OpenClaim := { program := "yteokeidclgfgnaa", sum := "a787b357d2ee890e249efbb1aeed6cd90a79b10d64d835c5d6c719f5266f2708", func := "raddle/raddlelaw04.SealSigns", spec := "sealSigns", unfollowed := true, recurses := true, apart := false }
def SealSignsSaid : Prop := sealSignsRow.holds Try.pinned (OpenSpec.ofChange sealSignsSpec)

/-- ITS FALSE NEIGHBOUR: 'it returns false'. Refute it at one input. -/
def sealSignsWrong : ChangeSpec := { name := "sealSigns", fn := fun _ => fun
  | [d1, d2, d3, d4, d5] => { results := [.lit (.bool false)], args := [d1, d2, d3, d4, d5] }
  | _ => none }
def SealSignsWrongFalsely : Prop := sealSignsRow.holds Try.pinned (OpenSpec.ofChange sealSignsWrong)

/-- 'raddlelaw04.SealOwn': WHATEVER THE INPUT: true; the input reads as it did. -/
def sealOwnSpec : ChangeSpec := { name := "sealOwn", fn := fun _ => fun
  | [d1, d2, d3, d4, d5] => { results := [.lit (.bool true)], args := [d1, d2, d3, d4, d5] }
  | _ => none }
def sealOwnRow : OpenClaim := { program := "yteokeidclgfgnaa", sum := "a787b357d2ee890e249efbb1aeed6cd90a79b10d64d835c5d6c719f5266f2708", func := "raddle/raddlelaw04.SealOwn", spec := "sealOwn", unfollowed := true, recurses := true, apart := false }
def SealOwnSaid : Prop := sealOwnRow.holds Try.pinned (OpenSpec.ofChange sealOwnSpec)

/-- ITS FALSE NEIGHBOUR: 'it returns false'. Refute it at one input. -/
def sealOwnWrong : ChangeSpec := { name := "sealOwn", fn := fun _ => fun
  | [d1, d2, d3, d4, d5] => { results := [.lit (.bool false)], args := [d1, d2, d3, d4, d5] }
  | _ => none }
def SealOwnWrongFalsely : Prop := sealOwnRow.holds Try.pinned (OpenSpec.ofChange sealOwnWrong)

/-- 'raddlelaw04.SealApart': WHATEVER THE INPUT: true; the input reads as it did. -/
def sealApartSpec : ChangeSpec := { name := "sealApart", fn := fun _ => fun
  | [d1, d2, d3, d4, d5] => { results := [.lit (.bool true)], args := [d1, d2, d3, d4, d5] }
  | _ => none }
def sealApartRow : OpenClaim := { program := "yteokeidclgfgnaa", sum := "a787b357d2ee890e249efbb1aeed6cd90a79b10d64d835c5d6c719f5266f2708", func := "raddle/raddlelaw04.SealApart", spec := "sealApart", unfollowed := true, recurses := true, apart := false }
def SealApartSaid : Prop := sealApartRow.holds Try.pinned (OpenSpec.ofChange sealApartSpec)

/-- ITS FALSE NEIGHBOUR: 'it returns false'. Refute it at one input. -/
def sealApartWrong : ChangeSpec := { name := "sealApart", fn := fun _ => fun
  | [d1, d2, d3, d4, d5] => { results := [.lit (.bool false)], args := [d1, d2, d3, d4, d5] }
  | _ => none }
def SealApartWrongFalsely : Prop := sealApartRow.holds Try.pinned (OpenSpec.ofChange sealApartWrong)

/- THE SECOND FORM. 'bulk': how many values and letters a reading holds, each counted each time it is reached (what is shared counts as often as it is met; a slice's spare places count too). A statement '..UptoSaid' is the law's where the arguments, and the package variables that the reading takes, are together of bulk at most 1048576: NARROWER than '..Said'. Prove '..Said' where nothing that the law and all that it calls make is longer than what came in: it says more and counts as full. Else prove '..UptoSaid'. A law counts once. -/
mutual
def uptoBulk {H : Type} : DataW H → Nat
  | .lit (.string bytes) => bytes.length + 1
  | .lit _ => 1
  | .nil => 1
  | .ptr d => uptoBulk d + 1
  | .slice elems spare => uptoBulkAll elems + uptoBulkAll spare + 1
  | .agg parts => uptoBulkAll parts + 1
  | .iface _ d => uptoBulk d + 1
  | .map entries => uptoBulkEntries entries + 1
  | .held _ => 1
def uptoBulkAll {H : Type} : List (DataW H) → Nat
  | [] => 0
  | d :: r => uptoBulk d + uptoBulkAll r
def uptoBulkEntries {H : Type} : List (Lit × DataW H) → Nat
  | [] => 0
  | x :: r => uptoBulkEntry x + uptoBulkEntries r
def uptoBulkEntry {H : Type} : Lit × DataW H → Nat
  | (.string bytes, d) => bytes.length + uptoBulk d + 1
  | (_, d) => uptoBulk d + 1
 end
def uptoSmall : (H : Type) → List (DataW H) → Bool := fun _ ds => decide (uptoBulkAll ds ≤ 1048576)
def OpenSpec.upto (s : _root_.Go.ChangeSpec) : _root_.Go.OpenSpec := { _root_.Go.OpenSpec.ofChange s with cond := some uptoSmall }

/-- 'raddlelaw03.DigestCuts', WHERE WHAT IT READS IS OF BULK AT MOST 1048576: true; the input reads as it did. -/
def digestCutsUptoRow : OpenClaim := { program := "yteokeidclgfgnaa", sum := "a787b357d2ee890e249efbb1aeed6cd90a79b10d64d835c5d6c719f5266f2708", func := "raddle/raddlelaw03.DigestCuts", spec := "digestCuts", unfollowed := true, recurses := true, apart := false, narrowed := true }
def DigestCutsUptoSaid : Prop := digestCutsUptoRow.holds Try.pinned (OpenSpec.upto digestCutsSpec)

/-- 'raddlelaw03.DigestOrder', WHERE WHAT IT READS IS OF BULK AT MOST 1048576: true; the input reads as it did. -/
def digestOrderUptoRow : OpenClaim := { program := "yteokeidclgfgnaa", sum := "a787b357d2ee890e249efbb1aeed6cd90a79b10d64d835c5d6c719f5266f2708", func := "raddle/raddlelaw03.DigestOrder", spec := "digestOrder", unfollowed := true, recurses := true, apart := false, narrowed := true }
def DigestOrderUptoSaid : Prop := digestOrderUptoRow.holds Try.pinned (OpenSpec.upto digestOrderSpec)

/-- 'raddlelaw03.DigestSums', WHERE WHAT IT READS IS OF BULK AT MOST 1048576: true; the input reads as it did. -/
def digestSumsUptoRow : OpenClaim := { program := "yteokeidclgfgnaa", sum := "a787b357d2ee890e249efbb1aeed6cd90a79b10d64d835c5d6c719f5266f2708", func := "raddle/raddlelaw03.DigestSums", spec := "digestSums", unfollowed := true, recurses := true, apart := false, narrowed := true }
def DigestSumsUptoSaid : Prop := digestSumsUptoRow.holds Try.pinned (OpenSpec.upto digestSumsSpec)

/-- 'raddlelaw01.TallyBack', WHERE WHAT IT READS IS OF BULK AT MOST 1048576: true; the input reads as it did. -/
def tallyBackUptoRow : OpenClaim := { program := "yteokeidclgfgnaa", sum := "a787b357d2ee890e249efbb1aeed6cd90a79b10d64d835c5d6c719f5266f2708", func := "raddle/raddlelaw01.TallyBack", spec := "tallyBack", apart := false, narrowed := true }
def TallyBackUptoSaid : Prop := tallyBackUptoRow.holds Try.pinned (OpenSpec.upto tallyBackSpec)

/-- 'raddlelaw03.DigestShares', WHERE WHAT IT READS IS OF BULK AT MOST 1048576: true; the input reads as it did. -/
def digestSharesUptoRow : OpenClaim := { program := "yteokeidclgfgnaa", sum := "a787b357d2ee890e249efbb1aeed6cd90a79b10d64d835c5d6c719f5266f2708", func := "raddle/raddlelaw03.DigestShares", spec := "digestShares", unfollowed := true, recurses := true, apart := false, narrowed := true }
def DigestSharesUptoSaid : Prop := digestSharesUptoRow.holds Try.pinned (OpenSpec.upto digestSharesSpec)

/-- 'raddlelaw04.SealMacs', WHERE WHAT IT READS IS OF BULK AT MOST 1048576: true; the input reads as it did. -/
def sealMacsUptoRow : OpenClaim := { program := "yteokeidclgfgnaa", sum := "a787b357d2ee890e249efbb1aeed6cd90a79b10d64d835c5d6c719f5266f2708", func := "raddle/raddlelaw04.SealMacs", spec := "sealMacs", unfollowed := true, recurses := true, apart := false, narrowed := true }
def SealMacsUptoSaid : Prop := sealMacsUptoRow.holds Try.pinned (OpenSpec.upto sealMacsSpec)

/-- 'raddlelaw03.DigestTexts', WHERE WHAT IT READS IS OF BULK AT MOST 1048576: true; the input reads as it did. -/
def digestTextsUptoRow : OpenClaim := { program := "yteokeidclgfgnaa", sum := "a787b357d2ee890e249efbb1aeed6cd90a79b10d64d835c5d6c719f5266f2708", func := "raddle/raddlelaw03.DigestTexts", spec := "digestTexts", unfollowed := true, recurses := true, apart := false, narrowed := true }
def DigestTextsUptoSaid : Prop := digestTextsUptoRow.holds Try.pinned (OpenSpec.upto digestTextsSpec)

/-- 'raddlelaw01.TallyReads', WHERE WHAT IT READS IS OF BULK AT MOST 1048576: true; the input reads as it did. -/
def tallyReadsUptoRow : OpenClaim := { program := "yteokeidclgfgnaa", sum := "a787b357d2ee890e249efbb1aeed6cd90a79b10d64d835c5d6c719f5266f2708", func := "raddle/raddlelaw01.TallyReads", spec := "tallyReads", apart := false, narrowed := true }
def TallyReadsUptoSaid : Prop := tallyReadsUptoRow.holds Try.pinned (OpenSpec.upto tallyReadsSpec)

/-- 'raddlelaw01.TallyNobody', WHERE WHAT IT READS IS OF BULK AT MOST 1048576: true; the input reads as it did. -/
def tallyNobodyUptoRow : OpenClaim := { program := "yteokeidclgfgnaa", sum := "a787b357d2ee890e249efbb1aeed6cd90a79b10d64d835c5d6c719f5266f2708", func := "raddle/raddlelaw01.TallyNobody", spec := "tallyNobody", apart := false, narrowed := true }
def TallyNobodyUptoSaid : Prop := tallyNobodyUptoRow.holds Try.pinned (OpenSpec.upto tallyNobodySpec)

/-- 'raddlelaw04.SealNobody', WHERE WHAT IT READS IS OF BULK AT MOST 1048576: true; the input reads as it did. -/
def sealNobodyUptoRow : OpenClaim := { program := "yteokeidclgfgnaa", sum := "a787b357d2ee890e249efbb1aeed6cd90a79b10d64d835c5d6c719f5266f2708", func := "raddle/raddlelaw04.SealNobody", spec := "sealNobody", unfollowed := true, recurses := true, apart := false, narrowed := true }
def SealNobodyUptoSaid : Prop := sealNobodyUptoRow.holds Try.pinned (OpenSpec.upto sealNobodySpec)

/-- 'raddlelaw04.SealSigns', WHERE WHAT IT READS IS OF BULK AT MOST 1048576: true; the input reads as it did. -/
def sealSignsUptoRow : OpenClaim := { program := "yteokeidclgfgnaa", sum := "a787b357d2ee890e249efbb1aeed6cd90a79b10d64d835c5d6c719f5266f2708", func := "raddle/raddlelaw04.SealSigns", spec := "sealSigns", unfollowed := true, recurses := true, apart := false, narrowed := true }
def SealSignsUptoSaid : Prop := sealSignsUptoRow.holds Try.pinned (OpenSpec.upto sealSignsSpec)

/-- 'raddlelaw04.SealOwn', WHERE WHAT IT READS IS OF BULK AT MOST 1048576: true; the input reads as it did. -/
def sealOwnUptoRow : OpenClaim := { program := "yteokeidclgfgnaa", sum := "a787b357d2ee890e249efbb1aeed6cd90a79b10d64d835c5d6c719f5266f2708", func := "raddle/raddlelaw04.SealOwn", spec := "sealOwn", unfollowed := true, recurses := true, apart := false, narrowed := true }
def SealOwnUptoSaid : Prop := sealOwnUptoRow.holds Try.pinned (OpenSpec.upto sealOwnSpec)

/-- 'raddlelaw04.SealApart', WHERE WHAT IT READS IS OF BULK AT MOST 1048576: true; the input reads as it did. -/
def sealApartUptoRow : OpenClaim := { program := "yteokeidclgfgnaa", sum := "a787b357d2ee890e249efbb1aeed6cd90a79b10d64d835c5d6c719f5266f2708", func := "raddle/raddlelaw04.SealApart", spec := "sealApart", unfollowed := true, recurses := true, apart := false, narrowed := true }
def SealApartUptoSaid : Prop := sealApartUptoRow.holds Try.pinned (OpenSpec.upto sealApartSpec)

end Rows
end Go.Proofs.Yteokeidclgfgnaa
