/-
  How a law's arguments are opened: a slice that came in reads as a list.
-/
import Derived.Test.YtmacgmmjgdmleaaBase
import Derived.Test.YtmacgmmjgdmleaaRows
import Derived.ProofKit
import Derived.OpenShut
import Derived.ShutString
import Derived.ChangeOld
import Derived.Below
namespace Go.Proofs.Ytmacgmmjgdmleaa
open Go Go.ChangeShapes Go.WideShapes Go.ChangeAt Go.RowKit
set_option linter.unusedSimpArgs false
set_option linter.unusedVariables false

theorem own : ownKnob Try.prog.godebug = none := by kernel_rfl
theorem laidOut : laidOutB Try.prog = true := by kernel_rfl
theorem kernel_true {b : Bool} (h : b = true) : b = true := h

section
variable {H : Type} {enc : TypeId × Value → H} {W : World} {T E : Nat} {a : Option Addr} {len cap : Nat} {d : DataW H} {p : List MemPlace}
set_option maxRecDepth 100000 in
/-- A slice of one-cell numbers that came in. -/
theorem open_row {k : IntKind} (hT : Try.prog.underlying T = some (.slice E)) (hE : Try.prog.underlying E = some (.int k)) (hc : Try.prog.cellsOf E = 1)
    (h : DataW.Trod enc Try.prog W 0 (fun _ => true) true T (.slice a len cap) d p) :
    ∃ zs : List Int, Sl W 1 a len cap (zs.map (Value.int k)) ∧ ∀ n ∈ zs, (Lit.int k n).wf = true := by
  obtain ⟨fuel, hf⟩ := h
  rcases open_ints hT hE hc hf with ⟨hcs, _⟩ | ⟨x, l, c, zs, hcs, _, hl, hm, hz, _, hcell, hwz⟩
  · simp [Value.cells] at hcs
    obtain ⟨rfl, rfl, rfl⟩ := hcs
    exact ⟨[], Sl.none _ _, by simp⟩
  · simp [Value.cells] at hcs
    obtain ⟨rfl, rfl, rfl⟩ := hcs
    have hz : zs.length = cap := by simpa using hz
    refine ⟨zs.take len, ⟨by rw [List.length_map, List.length_take, Nat.mul_one]; exact Nat.min_eq_left (by rw [hz]; exact hl), hl, hm, (fun e => by cases e), ?_⟩, fun n hn => hwz n (List.mem_of_mem_take hn)⟩
    intro b hb j u hu
    injection hb with hb
    subst hb
    rw [List.getElem?_map, List.getElem?_take] at hu
    split at hu
    · rename_i hj
      have hj2 : j < zs.length := by omega
      rw [List.getElem?_eq_getElem hj2] at hu
      simp at hu
      rw [hcell j hj2, ← hu]
      simp [List.getD, hj2]
    · simp at hu
theorem bytes_of {zs : List Int} (h : ∀ n ∈ zs, (Lit.int .u8 n).wf = true) : zs.map (Value.int .u8) = bv (zs.map fun n => UInt8.ofNat n.toNat) := by
  simp only [bv, List.map_map]
  apply List.map_congr_left
  intro n hn
  have hw := bounds_u8 (h n hn)
  simp only [Function.comp, UInt8.toNat_ofNat']
  congr 1
  omega
theorem open_bytes (hT : Try.prog.underlying T = some (.slice E)) (hE : Try.prog.underlying E = some (.int .u8)) (hc : Try.prog.cellsOf E = 1)
    (h : DataW.Trod enc Try.prog W 0 (fun _ => true) true T (.slice a len cap) d p) : ∃ l : List UInt8, Sl W 1 a len cap (bv l) := by
  obtain ⟨zs, h1, h2⟩ := open_row hT hE hc h
  exact ⟨_, bytes_of h2 ▸ h1⟩
theorem open_is (hT : Try.prog.underlying T = some (.slice E)) (hE : Try.prog.underlying E = some (.int .i64)) (hc : Try.prog.cellsOf E = 1)
    (h : DataW.Trod enc Try.prog W 0 (fun _ => true) true T (.slice a len cap) d p) : ∃ l : List Int, Sl W 1 a len cap (iv l) ∧ ∀ n ∈ l, (Lit.int .i64 n).wf = true := by
  obtain ⟨zs, h1, h2⟩ := open_row hT hE hc h
  exact ⟨zs, h1, h2⟩
end
end Go.Proofs.Ytmacgmmjgdmleaa
