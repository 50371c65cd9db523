/-
  The condition of this seat's rows: the table of the library lies where it lies; a world that meets it.
-/
import Derived.Test.YtkhloanpdehegaaDoorOpen
import Derived.Test.YtkhloanpdehegaaDoorTie
import Derived.Test.YtkhloanpdehegaaDoorCards
import Derived.Test.YtkhloanpdehegaaDoorMaskP
import Derived.LaidMore
import Derived.LaidLaws
import Derived.OpenShut
import Derived.Stop.Joined
import Derived.SevenTiedAt
import Derived.Lib.LaidTab
namespace Go.Proofs.YtkhloanpdehegaaDoor
open Go Go.ChangeShapes Go.WideShapes Go.ChangeAt Go.RowKit
set_option linter.unusedSimpArgs false
set_option linter.unusedVariables false

def laidD : List (String × DataW Unit) := [("math/bits.deBruijn64tab", Rows.laid_math_bits_deBruijn64tab)]
set_option maxRecDepth 100000 in
theorem door_met (os : Os) (args : Array Value) : laidMetH Tryd.prog laidD ((World.doorLaid Tryd.prog 14 os).forCall (fun _ _ => 0) ⟨#[], args, []⟩).memory :=
  laidMetH_of_parts3 (fuel := 8) (laidMet_of_run' 8 (by kernel_rfl) (by kernel_rfl)) (by kernel_rfl) (by kernel_rfl)
set_option maxRecDepth 100000 in
theorem tab_of_laid {W : World} (h : laidMetH Tryd.prog laidD W) : Tab W := by
  rw [MakeChecks.laidMetH_plain _ _ _ (by kernel_rfl)] at h
  have e : laidD = ("math/bits.deBruijn64tab", Lib.tabData .u8 (Lib.deBruijn64tab.map fun n : Nat => (n : Int))) :: [] := rfl
  rw [e] at h
  have gT : Tryd.prog.globalNamed "math/bits.deBruijn64tab" = some 0 := by kernel_rfl
  have key := Lib.tabIs_of_head gT (t := 76) (e := 5) (n := 64) (by kernel_rfl) Tryd.underlying76 Tryd.underlying5 (by kernel_rfl) (by kernel_rfl) h
  intro j hj
  have hc := key.cell gT j (by rw [List.length_map]; exact hj)
  rw [hc]
  congr 2
  have hl : Lib.deBruijn64tab.length = 64 := rfl
  simp [List.getD, hl, hj]
end Go.Proofs.YtkhloanpdehegaaDoor
