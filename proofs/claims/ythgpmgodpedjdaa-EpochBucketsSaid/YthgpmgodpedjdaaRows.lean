/-
  No cell of these rows narrows 'for every input' (looked for: loops, veiled, ifaces, maps, wideKeys, modest, calm, conditions, laid).
  DERIVED. THE GIVEN ROWS OF THIS SEAT. 12 by the template 'for every input the law returns true; each argument reads behind the call as it read before'; 0 by the template 'total and deterministic' (their statements: YthgpmgodpedjdaaTotals.lean).
  GIVEN WITH THE SEED: the statements are not yours to turn. If you find one false, say at which input.
  Laid BY PROGRAM, IN A SANDBOX (cutbox-rows.mjs): the forced cells as the released guide's own fill.sh prints them over the translation 634ca5d1e802c391… (all of the seat's roots in one cut). By AI agents, Wed Nov 11 2026. No macro, syntax, notation, axiom, sorry.
-/
import Derived.Test.YthgpmgodpedjdaaChecked
import GoSem.Claim
import GoSem.ClaimJoined
import GoSem.ClaimMapViews
import Derived.JoinedTies
import Derived.KernelRfl
namespace Go.Proofs.Ythgpmgodpedjdaa
/- THE CELL 'sum', in the pinned program and in every row, IS THE sha256 OF THE DUMP (.gsa) THAT YthgpmgodpedjdaaProg.lean LOADS. Nothing in Lean hashes anything: it is a label: what it is worth is what the hold of that sum in a sandbox is worth. -/
noncomputable def Try.pinned : Pinned := { name := "ythgpmgodpedjdaa", sum := "634ca5d1e802c3918e2b7a17ab58d1a2af96363d4ac897ad21238d2726b9ae8e", checked := Try.checked }
namespace Rows
def none {H : Type} : Left H := { results := [], args := [] }

/-- 'raddlelaw07.BatchApart': WHATEVER THE INPUT: true; the input reads as it did. -/
def batchApartSpec : ChangeSpec := { name := "batchApart", fn := fun _ => fun
  | [d1, d2] => { results := [.lit (.bool true)], args := [d1, d2] }
  | _ => none }
def batchApartRow : OpenClaim := { program := "ythgpmgodpedjdaa", sum := "634ca5d1e802c3918e2b7a17ab58d1a2af96363d4ac897ad21238d2726b9ae8e", func := "raddle/raddlelaw07.BatchApart", spec := "batchApart", unfollowed := true, recurses := true, plainKeys := false, apart := false }
def BatchApartSaid : Prop := batchApartRow.holds Try.pinned (OpenSpec.ofChange batchApartSpec)

/-- ITS FALSE NEIGHBOUR: 'it returns false'. Refute it at one input. -/
def batchApartWrong : ChangeSpec := { name := "batchApart", fn := fun _ => fun
  | [d1, d2] => { results := [.lit (.bool false)], args := [d1, d2] }
  | _ => none }
def BatchApartWrongFalsely : Prop := batchApartRow.holds Try.pinned (OpenSpec.ofChange batchApartWrong)

/-- 'raddlelaw07.BatchMeets': WHATEVER THE INPUT: true; the input reads as it did. -/
def batchMeetsSpec : ChangeSpec := { name := "batchMeets", fn := fun _ => fun
  | [d1, d2] => { results := [.lit (.bool true)], args := [d1, d2] }
  | _ => none }
def batchMeetsRow : OpenClaim := { program := "ythgpmgodpedjdaa", sum := "634ca5d1e802c3918e2b7a17ab58d1a2af96363d4ac897ad21238d2726b9ae8e", func := "raddle/raddlelaw07.BatchMeets", spec := "batchMeets", unfollowed := true, recurses := true, plainKeys := false, apart := false }
def BatchMeetsSaid : Prop := batchMeetsRow.holds Try.pinned (OpenSpec.ofChange batchMeetsSpec)

/-- ITS FALSE NEIGHBOUR: 'it returns false'. Refute it at one input. -/
def batchMeetsWrong : ChangeSpec := { name := "batchMeets", fn := fun _ => fun
  | [d1, d2] => { results := [.lit (.bool false)], args := [d1, d2] }
  | _ => none }
def BatchMeetsWrongFalsely : Prop := batchMeetsRow.holds Try.pinned (OpenSpec.ofChange batchMeetsWrong)

/-- 'raddlelaw06.RequestMakes': WHATEVER THE INPUT: true; the input reads as it did. -/
def requestMakesSpec : ChangeSpec := { name := "requestMakes", fn := fun _ => fun
  | [d] => { results := [.lit (.bool true)], args := [d] }
  | _ => none }
def requestMakesRow : OpenClaim := { program := "ythgpmgodpedjdaa", sum := "634ca5d1e802c3918e2b7a17ab58d1a2af96363d4ac897ad21238d2726b9ae8e", func := "raddle/raddlelaw06.RequestMakes", spec := "requestMakes", unfollowed := true, recurses := true, plainKeys := false, apart := false }
def RequestMakesSaid : Prop := requestMakesRow.holds Try.pinned (OpenSpec.ofChange requestMakesSpec)

/-- ITS FALSE NEIGHBOUR: 'it returns false'. Refute it at one input. -/
def requestMakesWrong : ChangeSpec := { name := "requestMakes", fn := fun _ => fun
  | [d] => { results := [.lit (.bool false)], args := [d] }
  | _ => none }
def RequestMakesWrongFalsely : Prop := requestMakesRow.holds Try.pinned (OpenSpec.ofChange requestMakesWrong)

/-- 'raddlelaw06.RequestMade': WHATEVER THE INPUT: true; the input reads as it did. -/
def requestMadeSpec : ChangeSpec := { name := "requestMade", fn := fun _ => fun
  | [d1, d2, d3] => { results := [.lit (.bool true)], args := [d1, d2, d3] }
  | _ => none }
def requestMadeRow : OpenClaim := { program := "ythgpmgodpedjdaa", sum := "634ca5d1e802c3918e2b7a17ab58d1a2af96363d4ac897ad21238d2726b9ae8e", func := "raddle/raddlelaw06.RequestMade", spec := "requestMade", unfollowed := true, recurses := true, plainKeys := false, apart := false }
def RequestMadeSaid : Prop := requestMadeRow.holds Try.pinned (OpenSpec.ofChange requestMadeSpec)

/-- ITS FALSE NEIGHBOUR: 'it returns false'. Refute it at one input. -/
def requestMadeWrong : ChangeSpec := { name := "requestMade", fn := fun _ => fun
  | [d1, d2, d3] => { results := [.lit (.bool false)], args := [d1, d2, d3] }
  | _ => none }
def RequestMadeWrongFalsely : Prop := requestMadeRow.holds Try.pinned (OpenSpec.ofChange requestMadeWrong)

/-- 'raddlelaw06.RequestChecks': WHATEVER THE INPUT: true; the input reads as it did. -/
def requestChecksSpec : ChangeSpec := { name := "requestChecks", fn := fun _ => fun
  | [d1, d2, d3] => { results := [.lit (.bool true)], args := [d1, d2, d3] }
  | _ => none }
def requestChecksRow : OpenClaim := { program := "ythgpmgodpedjdaa", sum := "634ca5d1e802c3918e2b7a17ab58d1a2af96363d4ac897ad21238d2726b9ae8e", func := "raddle/raddlelaw06.RequestChecks", spec := "requestChecks", unfollowed := true, recurses := true, plainKeys := false, apart := false }
def RequestChecksSaid : Prop := requestChecksRow.holds Try.pinned (OpenSpec.ofChange requestChecksSpec)

/-- ITS FALSE NEIGHBOUR: 'it returns false'. Refute it at one input. -/
def requestChecksWrong : ChangeSpec := { name := "requestChecks", fn := fun _ => fun
  | [d1, d2, d3] => { results := [.lit (.bool false)], args := [d1, d2, d3] }
  | _ => none }
def RequestChecksWrongFalsely : Prop := requestChecksRow.holds Try.pinned (OpenSpec.ofChange requestChecksWrong)

/-- 'raddlelaw07.BatchOnce': WHATEVER THE INPUT: true; the input reads as it did. -/
def batchOnceSpec : ChangeSpec := { name := "batchOnce", fn := fun _ => fun
  | [d1, d2] => { results := [.lit (.bool true)], args := [d1, d2] }
  | _ => none }
def batchOnceRow : OpenClaim := { program := "ythgpmgodpedjdaa", sum := "634ca5d1e802c3918e2b7a17ab58d1a2af96363d4ac897ad21238d2726b9ae8e", func := "raddle/raddlelaw07.BatchOnce", spec := "batchOnce", unfollowed := true, recurses := true, plainKeys := false, apart := false }
def BatchOnceSaid : Prop := batchOnceRow.holds Try.pinned (OpenSpec.ofChange batchOnceSpec)

/-- ITS FALSE NEIGHBOUR: 'it returns false'. Refute it at one input. -/
def batchOnceWrong : ChangeSpec := { name := "batchOnce", fn := fun _ => fun
  | [d1, d2] => { results := [.lit (.bool false)], args := [d1, d2] }
  | _ => none }
def BatchOnceWrongFalsely : Prop := batchOnceRow.holds Try.pinned (OpenSpec.ofChange batchOnceWrong)

/-- 'raddlelaw07.BatchChecks': WHATEVER THE INPUT: true; the input reads as it did. -/
def batchChecksSpec : ChangeSpec := { name := "batchChecks", fn := fun _ => fun
  | [d1, d2, d3] => { results := [.lit (.bool true)], args := [d1, d2, d3] }
  | _ => none }
def batchChecksRow : OpenClaim := { program := "ythgpmgodpedjdaa", sum := "634ca5d1e802c3918e2b7a17ab58d1a2af96363d4ac897ad21238d2726b9ae8e", func := "raddle/raddlelaw07.BatchChecks", spec := "batchChecks", unfollowed := true, recurses := true, plainKeys := false, apart := false }
def BatchChecksSaid : Prop := batchChecksRow.holds Try.pinned (OpenSpec.ofChange batchChecksSpec)

/-- ITS FALSE NEIGHBOUR: 'it returns false'. Refute it at one input. -/
def batchChecksWrong : ChangeSpec := { name := "batchChecks", fn := fun _ => fun
  | [d1, d2, d3] => { results := [.lit (.bool false)], args := [d1, d2, d3] }
  | _ => none }
def BatchChecksWrongFalsely : Prop := batchChecksRow.holds Try.pinned (OpenSpec.ofChange batchChecksWrong)

/-- 'raddlelaw07.BatchReads': WHATEVER THE INPUT: true; the input reads as it did. -/
def batchReadsSpec : ChangeSpec := { name := "batchReads", fn := fun _ => fun
  | [d1, d2] => { results := [.lit (.bool true)], args := [d1, d2] }
  | _ => none }
def batchReadsRow : OpenClaim := { program := "ythgpmgodpedjdaa", sum := "634ca5d1e802c3918e2b7a17ab58d1a2af96363d4ac897ad21238d2726b9ae8e", func := "raddle/raddlelaw07.BatchReads", spec := "batchReads", unfollowed := true, recurses := true, plainKeys := false, apart := false }
def BatchReadsSaid : Prop := batchReadsRow.holds Try.pinned (OpenSpec.ofChange batchReadsSpec)

/-- ITS FALSE NEIGHBOUR: 'it returns false'. Refute it at one input. -/
def batchReadsWrong : ChangeSpec := { name := "batchReads", fn := fun _ => fun
  | [d1, d2] => { results := [.lit (.bool false)], args := [d1, d2] }
  | _ => none }
def BatchReadsWrongFalsely : Prop := batchReadsRow.holds Try.pinned (OpenSpec.ofChange batchReadsWrong)

/-- 'raddlelaw07.BatchBack': WHATEVER THE INPUT: true; the input reads as it did. -/
def batchBackSpec : ChangeSpec := { name := "batchBack", fn := fun _ => fun
  | [d1, d2] => { results := [.lit (.bool true)], args := [d1, d2] }
  | _ => none }
def batchBackRow : OpenClaim := { program := "ythgpmgodpedjdaa", sum := "634ca5d1e802c3918e2b7a17ab58d1a2af96363d4ac897ad21238d2726b9ae8e", func := "raddle/raddlelaw07.BatchBack", spec := "batchBack", unfollowed := true, recurses := true, plainKeys := false, apart := false }
def BatchBackSaid : Prop := batchBackRow.holds Try.pinned (OpenSpec.ofChange batchBackSpec)

/-- ITS FALSE NEIGHBOUR: 'it returns false'. Refute it at one input. -/
def batchBackWrong : ChangeSpec := { name := "batchBack", fn := fun _ => fun
  | [d1, d2] => { results := [.lit (.bool false)], args := [d1, d2] }
  | _ => none }
def BatchBackWrongFalsely : Prop := batchBackRow.holds Try.pinned (OpenSpec.ofChange batchBackWrong)

/-- 'raddlelaw12.EpochBuckets': WHATEVER THE INPUT: true; the input reads as it did. -/
def epochBucketsSpec : ChangeSpec := { name := "epochBuckets", fn := fun _ => fun
  | [d1, d2, d3] => { results := [.lit (.bool true)], args := [d1, d2, d3] }
  | _ => none }
def epochBucketsRow : OpenClaim := { program := "ythgpmgodpedjdaa", sum := "634ca5d1e802c3918e2b7a17ab58d1a2af96363d4ac897ad21238d2726b9ae8e", func := "raddle/raddlelaw12.EpochBuckets", spec := "epochBuckets", unfollowed := true, recurses := true, plainKeys := false, apart := false }
def EpochBucketsSaid : Prop := epochBucketsRow.holds Try.pinned (OpenSpec.ofChange epochBucketsSpec)

/-- ITS FALSE NEIGHBOUR: 'it returns false'. Refute it at one input. -/
def epochBucketsWrong : ChangeSpec := { name := "epochBuckets", fn := fun _ => fun
  | [d1, d2, d3] => { results := [.lit (.bool false)], args := [d1, d2, d3] }
  | _ => none }
def EpochBucketsWrongFalsely : Prop := epochBucketsRow.holds Try.pinned (OpenSpec.ofChange epochBucketsWrong)

/-- 'raddlelaw12.EpochTells': WHATEVER THE INPUT: true; the input reads as it did. -/
def epochTellsSpec : ChangeSpec := { name := "epochTells", fn := fun _ => fun
  | [d1, d2, d3, d4, d5] => { results := [.lit (.bool true)], args := [d1, d2, d3, d4, d5] }
  | _ => none }
def epochTellsRow : OpenClaim := { program := "ythgpmgodpedjdaa", sum := "634ca5d1e802c3918e2b7a17ab58d1a2af96363d4ac897ad21238d2726b9ae8e", func := "raddle/raddlelaw12.EpochTells", spec := "epochTells", unfollowed := true, recurses := true, plainKeys := false, apart := false }
def EpochTellsSaid : Prop := epochTellsRow.holds Try.pinned (OpenSpec.ofChange epochTellsSpec)

/-- ITS FALSE NEIGHBOUR: 'it returns false'. Refute it at one input. -/
def epochTellsWrong : ChangeSpec := { name := "epochTells", fn := fun _ => fun
  | [d1, d2, d3, d4, d5] => { results := [.lit (.bool false)], args := [d1, d2, d3, d4, d5] }
  | _ => none }
def EpochTellsWrongFalsely : Prop := epochTellsRow.holds Try.pinned (OpenSpec.ofChange epochTellsWrong)

/-- 'raddlelaw06.RequestBack': WHATEVER THE INPUT: true; the input reads as it did. -/
def requestBackSpec : ChangeSpec := { name := "requestBack", fn := fun _ => fun
  | [d1, d2] => { results := [.lit (.bool true)], args := [d1, d2] }
  | _ => none }
def requestBackRow : OpenClaim := { program := "ythgpmgodpedjdaa", sum := "634ca5d1e802c3918e2b7a17ab58d1a2af96363d4ac897ad21238d2726b9ae8e", func := "raddle/raddlelaw06.RequestBack", spec := "requestBack", unfollowed := true, recurses := true, plainKeys := false, apart := false }
def RequestBackSaid : Prop := requestBackRow.holds Try.pinned (OpenSpec.ofChange requestBackSpec)

/-- ITS FALSE NEIGHBOUR: 'it returns false'. Refute it at one input. -/
def requestBackWrong : ChangeSpec := { name := "requestBack", fn := fun _ => fun
  | [d1, d2] => { results := [.lit (.bool false)], args := [d1, d2] }
  | _ => none }
def RequestBackWrongFalsely : Prop := requestBackRow.holds Try.pinned (OpenSpec.ofChange requestBackWrong)

/- THE SECOND FORM. 'bulk': how many values and letters a reading holds, each counted each time it is reached (what is shared counts as often as it is met; a slice's spare places count too). A statement '..UptoSaid' is the law's where the arguments, and the package variables that the reading takes, are together of bulk at most 1048576: NARROWER than '..Said'. Prove '..Said' where nothing that the law and all that it calls make is longer than what came in: it says more and counts as full. Else prove '..UptoSaid'. A law counts once. -/
mutual
def uptoBulk {H : Type} : DataW H → Nat
  | .lit (.string bytes) => bytes.length + 1
  | .lit _ => 1
  | .nil => 1
  | .ptr d => uptoBulk d + 1
  | .slice elems spare => uptoBulkAll elems + uptoBulkAll spare + 1
  | .agg parts => uptoBulkAll parts + 1
  | .iface _ d => uptoBulk d + 1
  | .map entries => uptoBulkEntries entries + 1
  | .held _ => 1
def uptoBulkAll {H : Type} : List (DataW H) → Nat
  | [] => 0
  | d :: r => uptoBulk d + uptoBulkAll r
def uptoBulkEntries {H : Type} : List (Lit × DataW H) → Nat
  | [] => 0
  | x :: r => uptoBulkEntry x + uptoBulkEntries r
def uptoBulkEntry {H : Type} : Lit × DataW H → Nat
  | (.string bytes, d) => bytes.length + uptoBulk d + 1
  | (_, d) => uptoBulk d + 1
 end
def uptoSmall : (H : Type) → List (DataW H) → Bool := fun _ ds => decide (uptoBulkAll ds ≤ 1048576)
def OpenSpec.upto (s : _root_.Go.ChangeSpec) : _root_.Go.OpenSpec := { _root_.Go.OpenSpec.ofChange s with cond := some uptoSmall }

/-- 'raddlelaw07.BatchApart', WHERE WHAT IT READS IS OF BULK AT MOST 1048576: true; the input reads as it did. -/
def batchApartUptoRow : OpenClaim := { program := "ythgpmgodpedjdaa", sum := "634ca5d1e802c3918e2b7a17ab58d1a2af96363d4ac897ad21238d2726b9ae8e", func := "raddle/raddlelaw07.BatchApart", spec := "batchApart", unfollowed := true, recurses := true, plainKeys := false, apart := false, narrowed := true }
def BatchApartUptoSaid : Prop := batchApartUptoRow.holds Try.pinned (OpenSpec.upto batchApartSpec)

/-- 'raddlelaw07.BatchMeets', WHERE WHAT IT READS IS OF BULK AT MOST 1048576: true; the input reads as it did. -/
def batchMeetsUptoRow : OpenClaim := { program := "ythgpmgodpedjdaa", sum := "634ca5d1e802c3918e2b7a17ab58d1a2af96363d4ac897ad21238d2726b9ae8e", func := "raddle/raddlelaw07.BatchMeets", spec := "batchMeets", unfollowed := true, recurses := true, plainKeys := false, apart := false, narrowed := true }
def BatchMeetsUptoSaid : Prop := batchMeetsUptoRow.holds Try.pinned (OpenSpec.upto batchMeetsSpec)

/-- 'raddlelaw06.RequestMakes', WHERE WHAT IT READS IS OF BULK AT MOST 1048576: true; the input reads as it did. -/
def requestMakesUptoRow : OpenClaim := { program := "ythgpmgodpedjdaa", sum := "634ca5d1e802c3918e2b7a17ab58d1a2af96363d4ac897ad21238d2726b9ae8e", func := "raddle/raddlelaw06.RequestMakes", spec := "requestMakes", unfollowed := true, recurses := true, plainKeys := false, apart := false, narrowed := true }
def RequestMakesUptoSaid : Prop := requestMakesUptoRow.holds Try.pinned (OpenSpec.upto requestMakesSpec)

/-- 'raddlelaw06.RequestMade', WHERE WHAT IT READS IS OF BULK AT MOST 1048576: true; the input reads as it did. -/
def requestMadeUptoRow : OpenClaim := { program := "ythgpmgodpedjdaa", sum := "634ca5d1e802c3918e2b7a17ab58d1a2af96363d4ac897ad21238d2726b9ae8e", func := "raddle/raddlelaw06.RequestMade", spec := "requestMade", unfollowed := true, recurses := true, plainKeys := false, apart := false, narrowed := true }
def RequestMadeUptoSaid : Prop := requestMadeUptoRow.holds Try.pinned (OpenSpec.upto requestMadeSpec)

/-- 'raddlelaw06.RequestChecks', WHERE WHAT IT READS IS OF BULK AT MOST 1048576: true; the input reads as it did. -/
def requestChecksUptoRow : OpenClaim := { program := "ythgpmgodpedjdaa", sum := "634ca5d1e802c3918e2b7a17ab58d1a2af96363d4ac897ad21238d2726b9ae8e", func := "raddle/raddlelaw06.RequestChecks", spec := "requestChecks", unfollowed := true, recurses := true, plainKeys := false, apart := false, narrowed := true }
def RequestChecksUptoSaid : Prop := requestChecksUptoRow.holds Try.pinned (OpenSpec.upto requestChecksSpec)

/-- 'raddlelaw07.BatchOnce', WHERE WHAT IT READS IS OF BULK AT MOST 1048576: true; the input reads as it did. -/
def batchOnceUptoRow : OpenClaim := { program := "ythgpmgodpedjdaa", sum := "634ca5d1e802c3918e2b7a17ab58d1a2af96363d4ac897ad21238d2726b9ae8e", func := "raddle/raddlelaw07.BatchOnce", spec := "batchOnce", unfollowed := true, recurses := true, plainKeys := false, apart := false, narrowed := true }
def BatchOnceUptoSaid : Prop := batchOnceUptoRow.holds Try.pinned (OpenSpec.upto batchOnceSpec)

/-- 'raddlelaw07.BatchChecks', WHERE WHAT IT READS IS OF BULK AT MOST 1048576: true; the input reads as it did. -/
def batchChecksUptoRow : OpenClaim := { program := "ythgpmgodpedjdaa", sum := "634ca5d1e802c3918e2b7a17ab58d1a2af96363d4ac897ad21238d2726b9ae8e", func := "raddle/raddlelaw07.BatchChecks", spec := "batchChecks", unfollowed := true, recurses := true, plainKeys := false, apart := false, narrowed := true }
def BatchChecksUptoSaid : Prop := batchChecksUptoRow.holds Try.pinned (OpenSpec.upto batchChecksSpec)

/-- 'raddlelaw07.BatchReads', WHERE WHAT IT READS IS OF BULK AT MOST 1048576: true; the input reads as it did. -/
def batchReadsUptoRow : OpenClaim := { program := "ythgpmgodpedjdaa", sum := "634ca5d1e802c3918e2b7a17ab58d1a2af96363d4ac897ad21238d2726b9ae8e", func := "raddle/raddlelaw07.BatchReads", spec := "batchReads", unfollowed := true, recurses := true, plainKeys := false, apart := false, narrowed := true }
def BatchReadsUptoSaid : Prop := batchReadsUptoRow.holds Try.pinned (OpenSpec.upto batchReadsSpec)

/-- 'raddlelaw07.BatchBack', WHERE WHAT IT READS IS OF BULK AT MOST 1048576: true; the input reads as it did. -/
def batchBackUptoRow : OpenClaim := { program := "ythgpmgodpedjdaa", sum := "634ca5d1e802c3918e2b7a17ab58d1a2af96363d4ac897ad21238d2726b9ae8e", func := "raddle/raddlelaw07.BatchBack", spec := "batchBack", unfollowed := true, recurses := true, plainKeys := false, apart := false, narrowed := true }
def BatchBackUptoSaid : Prop := batchBackUptoRow.holds Try.pinned (OpenSpec.upto batchBackSpec)

/-- 'raddlelaw12.EpochBuckets', WHERE WHAT IT READS IS OF BULK AT MOST 1048576: true; the input reads as it did. -/
def epochBucketsUptoRow : OpenClaim := { program := "ythgpmgodpedjdaa", sum := "634ca5d1e802c3918e2b7a17ab58d1a2af96363d4ac897ad21238d2726b9ae8e", func := "raddle/raddlelaw12.EpochBuckets", spec := "epochBuckets", unfollowed := true, recurses := true, plainKeys := false, apart := false, narrowed := true }
def EpochBucketsUptoSaid : Prop := epochBucketsUptoRow.holds Try.pinned (OpenSpec.upto epochBucketsSpec)

/-- 'raddlelaw12.EpochTells', WHERE WHAT IT READS IS OF BULK AT MOST 1048576: true; the input reads as it did. -/
def epochTellsUptoRow : OpenClaim := { program := "ythgpmgodpedjdaa", sum := "634ca5d1e802c3918e2b7a17ab58d1a2af96363d4ac897ad21238d2726b9ae8e", func := "raddle/raddlelaw12.EpochTells", spec := "epochTells", unfollowed := true, recurses := true, plainKeys := false, apart := false, narrowed := true }
def EpochTellsUptoSaid : Prop := epochTellsUptoRow.holds Try.pinned (OpenSpec.upto epochTellsSpec)

/-- 'raddlelaw06.RequestBack', WHERE WHAT IT READS IS OF BULK AT MOST 1048576: true; the input reads as it did. -/
def requestBackUptoRow : OpenClaim := { program := "ythgpmgodpedjdaa", sum := "634ca5d1e802c3918e2b7a17ab58d1a2af96363d4ac897ad21238d2726b9ae8e", func := "raddle/raddlelaw06.RequestBack", spec := "requestBack", unfollowed := true, recurses := true, plainKeys := false, apart := false, narrowed := true }
def RequestBackUptoSaid : Prop := requestBackUptoRow.holds Try.pinned (OpenSpec.upto requestBackSpec)

end Rows
end Go.Proofs.Ythgpmgodpedjdaa
