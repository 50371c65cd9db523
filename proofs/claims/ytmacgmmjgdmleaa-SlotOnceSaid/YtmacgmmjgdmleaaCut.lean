/-
  Parts of slices; rows of slices of bytes.
-/
import Derived.Test.YtmacgmmjgdmleaaLives3
namespace Go.Proofs.Ytmacgmmjgdmleaa
open Go Go.RowKit
set_option linter.unusedSimpArgs false
set_option linter.unusedVariables false

section
variable {P : Program} {ops : Array Oper} {rest : List Oper} {o : Oper} {a : Act} {Q : Exit → Act → World → Prop} {t e : TypeId} {z : Value} {sz by_ : Nat}
/-- 's[:k]'. -/
theorem slice_to {W : World} {ao : Option Addr} {n c : Nat} {xs : List Value} (hg : Region.wanted o (yielded ops a.tmps) = true) (x high : Operand) (ho : o.op = .slice t x none (some high) none)
    (hT : SlT P t e z sz by_) (hx : a.eval x = .slice ao n c) (kl : IntKind) (L : Int) (k : Nat) (hl : a.eval high = .int kl L) (hL : L = (k : Int)) (hk : k ≤ n) (hsl : Sl W sz ao n c xs)
    (h : Sl W sz ao k c (xs.take (k * sz)) → wpList P ops Q rest (a.put o.dst (.slice ao k c)) W) : wpList P ops Q (o :: rest) a W := by
  obtain ⟨i0, hi, hz0, hz1, hz2⟩ := info_parts hT.info
  subst hL
  have hcap := hsl.cap
  have he : P.elem t = e := by simp [Program.elem, hT.under]
  have ht : P.underlying t = some (.slice (P.elem t)) := by rw [he]; exact hT.under
  have hadd : ∀ b : Addr, b.add 0 = b := fun b => by unfold Addr.add; simp
  have hrun : (Instr.sliceAt t (.slice ao n c) none (some (.int kl (k : Int))) none).run P W = .ok (.slice ao k c) W := by
    rw [run_sliceAt_slice W _ _ _ _ _ ht, run_slice_h W _ _ _ _ ht _ _ (by omega) (by omega), he]
    rcases ao with _ | b
    · simp [sizeOf, typeInfo, hi, hz1, Result.andThen, sliced]
    · simp [sizeOf, typeInfo, hi, hz1, Result.andThen, sliced, hadd]
  refine wpL hg fun K hK => ?_
  unfold Oper.wp execOp
  simp only [ho, hx, hl, Option.map_some, Option.map_none, Sem.run_bind, Sem.run_pure, Result.andThen_ok, hrun]
  refine hK _ _ (h ?_)
  rcases ao with _ | b
  · have h0 := hsl.nil rfl
    obtain rfl : k = 0 := by omega
    exact ⟨by simp, by omega, by have := hsl.most; omega, fun _ => h0, fun b hb => by cases hb⟩
  · exact hsl.take hk
end
theorem rowT : SlT Try.prog 240 166 (.slice none 0 0) 1 24 := ⟨Try.underlying240, by kernel_rfl, rfl, by decide⟩
theorem Sls.snoc {w : World} {ao : Option Addr} {n c : Nat} {l : List UInt8} {vs : List Value} {bs : List (List UInt8)} (k : Sls w vs bs) (h : Sl w 1 ao n c (bv l)) : Sls w (vs ++ [.slice ao n c]) (bs ++ [l]) := by
  refine ⟨by simp [k.1], fun j hj => ?_⟩
  simp only [List.length_append, List.length_singleton] at hj
  by_cases hlt : j < bs.length
  · obtain ⟨ao', n', c', h1, h2⟩ := k.2 j hlt
    refine ⟨ao', n', c', by rw [List.getElem?_append_left (by rw [k.1]; exact hlt)]; exact h1, ?_⟩
    simpa [List.getD, List.getElem?_append_left hlt] using h2
  · obtain rfl : j = bs.length := by omega
    refine ⟨ao, n, c, by rw [← k.1]; simp, ?_⟩
    simpa [List.getD] using h
theorem Sls.keep {w w' : World} {vs : List Value} {bs : List (List UInt8)} {p : Nat → Prop} (h : Sls w vs bs) (k : Keep p w w') (hp : ∀ x, x < w.heap.size → ¬ p x) : Sls w' vs bs := h.same (k.same hp)
/-- What stands in parts lies in blocks that are kept. -/
theorem Sls.keep_lt {B : Nat} {w w' : World} {vs : List Value} {bs : List (List UInt8)} {p : Nat → Prop} (h : Sls w vs bs) (hB : ∀ j ao n c b, vs[j]? = some (.slice ao n c) → ao = some b → bs.getD j [] ≠ [] → b.block < B) (k : Keep p w w') (hp : ∀ x, x < B → ¬ p x) : Sls w' vs bs :=
  ⟨h.1, fun j hj => by
    obtain ⟨ao, n, c, h1, h2⟩ := h.2 j hj
    refine ⟨ao, n, c, h1, h2.keep k fun b hb hx => hp _ (hB j ao n c b h1 hb ?_)⟩
    intro h0
    rw [h0] at hx
    exact hx rfl⟩
end Go.Proofs.Ytmacgmmjgdmleaa
