/-
  No cell of these rows narrows 'for every input' (looked for: loops, veiled, ifaces, maps, wideKeys, modest, calm, conditions, laid).
  DERIVED. THE GIVEN ROWS OF THIS SEAT. 4 by the template 'for every input the law returns true; each argument reads behind the call as it read before'; 0 by the template 'total and deterministic' (their statements: YtodckbcnaghhaaaTotals.lean).
  GIVEN WITH THE SEED: the statements are not yours to turn. If you find one false, say at which input.
  Laid BY PROGRAM, IN A SANDBOX (cutbox-rows.mjs): the forced cells as the released guide's own fill.sh prints them over the translation fcd71eb40656fb83… (all of the seat's roots in one cut). By AI agents, Wed Nov 11 2026. No macro, syntax, notation, axiom, sorry.
-/
import Derived.Test.YtodckbcnaghhaaaChecked
import GoSem.Claim
import GoSem.ClaimJoined
import GoSem.ClaimMapViews
import Derived.JoinedTies
import Derived.KernelRfl
namespace Go.Proofs.Ytodckbcnaghhaaa
/- THE CELL 'sum', in the pinned program and in every row, IS THE sha256 OF THE DUMP (.gsa) THAT YtodckbcnaghhaaaProg.lean LOADS. Nothing in Lean hashes anything: it is a label: what it is worth is what the hold of that sum in a sandbox is worth. -/
noncomputable def Try.pinned : Pinned := { name := "ytodckbcnaghhaaa", sum := "fcd71eb40656fb831d0dbbfaa793ef0cceb408bbfb439d19f7f9051b1cc64ca9", checked := Try.checked }
namespace Rows
def none {H : Type} : Left H := { results := [], args := [] }

/-- 'raddlelaw01.TallyOrder': WHATEVER THE INPUT: true; the input reads as it did. -/
def tallyOrderSpec : ChangeSpec := { name := "tallyOrder", fn := fun _ => fun
  | [d1, d2] => { results := [.lit (.bool true)], args := [d1, d2] }
  | _ => none }
def tallyOrderRow : OpenClaim := { program := "ytodckbcnaghhaaa", sum := "fcd71eb40656fb831d0dbbfaa793ef0cceb408bbfb439d19f7f9051b1cc64ca9", func := "raddle/raddlelaw01.TallyOrder", spec := "tallyOrder", apart := false }
def TallyOrderSaid : Prop := tallyOrderRow.holds Try.pinned (OpenSpec.ofChange tallyOrderSpec)

/-- ITS FALSE NEIGHBOUR: 'it returns false'. Refute it at one input. -/
def tallyOrderWrong : ChangeSpec := { name := "tallyOrder", fn := fun _ => fun
  | [d1, d2] => { results := [.lit (.bool false)], args := [d1, d2] }
  | _ => none }
def TallyOrderWrongFalsely : Prop := tallyOrderRow.holds Try.pinned (OpenSpec.ofChange tallyOrderWrong)

/-- 'raddlelaw01.TallyPuts': WHATEVER THE INPUT: true; the input reads as it did. -/
def tallyPutsSpec : ChangeSpec := { name := "tallyPuts", fn := fun _ => fun
  | [d1, d2, d3] => { results := [.lit (.bool true)], args := [d1, d2, d3] }
  | _ => none }
def tallyPutsRow : OpenClaim := { program := "ytodckbcnaghhaaa", sum := "fcd71eb40656fb831d0dbbfaa793ef0cceb408bbfb439d19f7f9051b1cc64ca9", func := "raddle/raddlelaw01.TallyPuts", spec := "tallyPuts", apart := false }
def TallyPutsSaid : Prop := tallyPutsRow.holds Try.pinned (OpenSpec.ofChange tallyPutsSpec)

/-- ITS FALSE NEIGHBOUR: 'it returns false'. Refute it at one input. -/
def tallyPutsWrong : ChangeSpec := { name := "tallyPuts", fn := fun _ => fun
  | [d1, d2, d3] => { results := [.lit (.bool false)], args := [d1, d2, d3] }
  | _ => none }
def TallyPutsWrongFalsely : Prop := tallyPutsRow.holds Try.pinned (OpenSpec.ofChange tallyPutsWrong)

/-- 'raddlelaw01.TallyForm': WHATEVER THE INPUT: true; the input reads as it did. -/
def tallyFormSpec : ChangeSpec := { name := "tallyForm", fn := fun _ => fun
  | [d] => { results := [.lit (.bool true)], args := [d] }
  | _ => none }
def tallyFormRow : OpenClaim := { program := "ytodckbcnaghhaaa", sum := "fcd71eb40656fb831d0dbbfaa793ef0cceb408bbfb439d19f7f9051b1cc64ca9", func := "raddle/raddlelaw01.TallyForm", spec := "tallyForm", apart := false }
def TallyFormSaid : Prop := tallyFormRow.holds Try.pinned (OpenSpec.ofChange tallyFormSpec)

/-- ITS FALSE NEIGHBOUR: 'it returns false'. Refute it at one input. -/
def tallyFormWrong : ChangeSpec := { name := "tallyForm", fn := fun _ => fun
  | [d] => { results := [.lit (.bool false)], args := [d] }
  | _ => none }
def TallyFormWrongFalsely : Prop := tallyFormRow.holds Try.pinned (OpenSpec.ofChange tallyFormWrong)

/-- 'raddlelaw03.DigestCuts': WHATEVER THE INPUT: true; the input reads as it did. -/
def digestCutsSpec : ChangeSpec := { name := "digestCuts", fn := fun _ => fun
  | [d1, d2] => { results := [.lit (.bool true)], args := [d1, d2] }
  | _ => none }
def digestCutsRow : OpenClaim := { program := "ytodckbcnaghhaaa", sum := "fcd71eb40656fb831d0dbbfaa793ef0cceb408bbfb439d19f7f9051b1cc64ca9", func := "raddle/raddlelaw03.DigestCuts", spec := "digestCuts", unfollowed := true, recurses := true, apart := false }
def DigestCutsSaid : Prop := digestCutsRow.holds Try.pinned (OpenSpec.ofChange digestCutsSpec)

/-- ITS FALSE NEIGHBOUR: 'it returns false'. Refute it at one input. -/
def digestCutsWrong : ChangeSpec := { name := "digestCuts", fn := fun _ => fun
  | [d1, d2] => { results := [.lit (.bool false)], args := [d1, d2] }
  | _ => none }
def DigestCutsWrongFalsely : Prop := digestCutsRow.holds Try.pinned (OpenSpec.ofChange digestCutsWrong)

/- THE SECOND FORM. 'bulk': how many values and letters a reading holds, each counted each time it is reached (what is shared counts as often as it is met; a slice's spare places count too). A statement '..UptoSaid' is the law's where the arguments, and the package variables that the reading takes, are together of bulk at most 1048576: NARROWER than '..Said'. Prove '..Said' where nothing that the law and all that it calls make is longer than what came in: it says more and counts as full. Else prove '..UptoSaid'. A law counts once. -/
mutual
def uptoBulk {H : Type} : DataW H → Nat
  | .lit (.string bytes) => bytes.length + 1
  | .lit _ => 1
  | .nil => 1
  | .ptr d => uptoBulk d + 1
  | .slice elems spare => uptoBulkAll elems + uptoBulkAll spare + 1
  | .agg parts => uptoBulkAll parts + 1
  | .iface _ d => uptoBulk d + 1
  | .map entries => uptoBulkEntries entries + 1
  | .held _ => 1
def uptoBulkAll {H : Type} : List (DataW H) → Nat
  | [] => 0
  | d :: r => uptoBulk d + uptoBulkAll r
def uptoBulkEntries {H : Type} : List (Lit × DataW H) → Nat
  | [] => 0
  | x :: r => uptoBulkEntry x + uptoBulkEntries r
def uptoBulkEntry {H : Type} : Lit × DataW H → Nat
  | (.string bytes, d) => bytes.length + uptoBulk d + 1
  | (_, d) => uptoBulk d + 1
 end
def uptoSmall : (H : Type) → List (DataW H) → Bool := fun _ ds => decide (uptoBulkAll ds ≤ 1048576)
def OpenSpec.upto (s : _root_.Go.ChangeSpec) : _root_.Go.OpenSpec := { _root_.Go.OpenSpec.ofChange s with cond := some uptoSmall }

/-- 'raddlelaw01.TallyOrder', WHERE WHAT IT READS IS OF BULK AT MOST 1048576: true; the input reads as it did. -/
def tallyOrderUptoRow : OpenClaim := { program := "ytodckbcnaghhaaa", sum := "fcd71eb40656fb831d0dbbfaa793ef0cceb408bbfb439d19f7f9051b1cc64ca9", func := "raddle/raddlelaw01.TallyOrder", spec := "tallyOrder", apart := false, narrowed := true }
def TallyOrderUptoSaid : Prop := tallyOrderUptoRow.holds Try.pinned (OpenSpec.upto tallyOrderSpec)

/-- 'raddlelaw01.TallyPuts', WHERE WHAT IT READS IS OF BULK AT MOST 1048576: true; the input reads as it did. -/
def tallyPutsUptoRow : OpenClaim := { program := "ytodckbcnaghhaaa", sum := "fcd71eb40656fb831d0dbbfaa793ef0cceb408bbfb439d19f7f9051b1cc64ca9", func := "raddle/raddlelaw01.TallyPuts", spec := "tallyPuts", apart := false, narrowed := true }
def TallyPutsUptoSaid : Prop := tallyPutsUptoRow.holds Try.pinned (OpenSpec.upto tallyPutsSpec)

/-- 'raddlelaw01.TallyForm', WHERE WHAT IT READS IS OF BULK AT MOST 1048576: true; the input reads as it did. -/
def tallyFormUptoRow : OpenClaim := { program := "ytodckbcnaghhaaa", sum := "fcd71eb40656fb831d0dbbfaa793ef0cceb408bbfb439d19f7f9051b1cc64ca9", func := "raddle/raddlelaw01.TallyForm", spec := "tallyForm", apart := false, narrowed := true }
def TallyFormUptoSaid : Prop := tallyFormUptoRow.holds Try.pinned (OpenSpec.upto tallyFormSpec)

/-- 'raddlelaw03.DigestCuts', WHERE WHAT IT READS IS OF BULK AT MOST 1048576: true; the input reads as it did. -/
def digestCutsUptoRow : OpenClaim := { program := "ytodckbcnaghhaaa", sum := "fcd71eb40656fb831d0dbbfaa793ef0cceb408bbfb439d19f7f9051b1cc64ca9", func := "raddle/raddlelaw03.DigestCuts", spec := "digestCuts", unfollowed := true, recurses := true, apart := false, narrowed := true }
def DigestCutsUptoSaid : Prop := digestCutsUptoRow.holds Try.pinned (OpenSpec.upto digestCutsSpec)

end Rows
end Go.Proofs.Ytodckbcnaghhaaa
