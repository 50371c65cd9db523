/-
  Bytes that grow by Put: a row of the call's own, or one that is full; what is appended to it lies apart.
-/
import Derived.Test.YteokeidclgfgnaaReads
namespace Go.Proofs.Yteokeidclgfgnaa
open Go Go.RowKit
set_option linter.unusedSimpArgs false
set_option linter.unusedVariables false

/-- Bytes that nobody else sees grow. -/
def Bag (w : World) (base : Nat) (v : Value) (l : List UInt8) : Prop := ∃ ao c, v = .slice ao l.length c ∧ Sl w 1 ao l.length c (bv l) ∧ (Own w base 5 1 v l.length (bv l) ∨ c = l.length)
theorem Bag.nil (w : World) (base : Nat) : Bag w base (.slice none 0 0) [] := ⟨none, 0, rfl, Sl.none w 1, .inr rfl⟩
theorem Bag.own {w : World} {base : Nat} {v : Value} {l : List UInt8} (h : Own w base 5 1 v l.length (bv l)) : Bag w base v l := by
  obtain ⟨ao, c, rfl, hsl⟩ := h.sl
  exact ⟨ao, c, rfl, hsl, .inl h⟩
theorem Bag.lower {w : World} {base base' : Nat} {v : Value} {l : List UInt8} (h : Bag w base v l) (hb : base' ≤ base) : Bag w base' v l := by
  obtain ⟨ao, c, h1, h2, h3⟩ := h
  exact ⟨ao, c, h1, h2, h3.imp (fun h => h.lower hb) id⟩
theorem run_append_empty {P : Program} (W : World) (t o e : TypeId) {z : Value} {sz by_ : Nat} (hT : SlT P t e z sz by_) (ao so : Option Addr) (n c c2 : Nat) (hc : n ≤ c) : (Builtin.append_ #[t, t] o #[.slice ao n c, .slice so 0 c2]).run P W = .ok (.slice ao n c) W := by
  obtain ⟨i0, hi, hz0, hz1, hz2⟩ := info_parts hT.info
  have hl : ∀ s, (loadCellsFrom s 0 0 #[]).run P W = .ok #[] W := fun s => by simp [loadCellsFrom]
  rcases ao with _ | a <;> rcases so with _ | s <;> simp [Builtin.append_, Builtin.lenOf, Builtin.firstCells, run_underlying hT.under, Sem.run_bind, Result.andThen, sizeOf, typeInfo, hi, hz1, hc, storeCells, loadCells, hl]
section
variable {P : Program} {ops : Array Oper} {rest : List Oper} {o : Oper} {a : Act} {Q : Exit → Act → World → Prop}
/-- 'append(b, src...)', b a bag. -/
theorem append_bag {W : World} {base : Nat} {v : Value} {xs l : List UInt8} {ao : Option Addr} {m c2 : Nat} (hg : Region.wanted o (yielded ops a.tmps) = true) (s x : Operand) (ho : o.op = .call { callee := .builtin .append, args := #[s, x], argTypes := #[22, 22] })
    (hbag : Bag W base v xs) (hs : a.eval s = v) (hx : a.eval x = .slice ao m c2) (hsl : Sl W 1 ao m c2 (bv l)) (hb : base ≤ W.heap.size) (hmax : xs.length + m ≤ 140737488355328)
    (h : ∀ ao' c' w', Sl w' 1 ao' (xs.length + m) c' (bv (xs ++ l)) → Keep (fun k => base ≤ k) W w' → wpList Try.prog ops Q rest (a.put o.dst (.slice ao' (xs.length + m) c')) w') :
    wpList Try.prog ops Q (o :: rest) a W := by
  obtain ⟨bo, c, rfl, hbs, hown | hc⟩ := hbag
  · refine append_sl hg s x ho byT hown hs hx hsl bv_cell hb (by omega) (by omega) ?_
    intro v' w' ho' hk' _
    obtain ⟨ao', c', rfl, hsl'⟩ := ho'.sl
    rw [← bv_append] at hsl'
    exact h ao' c' w' hsl' (hk'.mono fun x _ hv => hown.base x hv)
  · subst hc
    have hlm : l.length = m := by have := hsl.len; rw [bv_length] at this; omega
    by_cases hm : m = 0
    · subst hm
      obtain rfl : l = [] := List.eq_nil_of_length_eq_zero hlm
      refine wpL_append hg s x ho hs hx (run_append_empty W _ _ _ byT bo ao _ _ c2 (Nat.le_refl _)) ?_
      have := h bo xs.length W (by simpa using hbs) Keep.refl
      simpa using this
    · obtain ⟨i0, hi, hz0, hz1, hz2⟩ := info_parts byT.info
      obtain ⟨ad, rfl⟩ := hsl.addr (by omega)
      have key : ∃ v' w', (Builtin.append_ #[22, 22] o.type #[.slice bo xs.length xs.length, .slice (some ad) m c2]).run Try.prog W = .ok v' w' ∧ Own w' W.heap.size 5 1 v' (xs.length + m) (bv xs ++ bv l) ∧ W.grownBy w' .none := by
        rcases bo with _ | b
        · have h0 := hbs.nil rfl
          obtain rfl : xs = [] := List.eq_nil_of_length_eq_zero h0
          obtain ⟨v', w', hr, h2, h3, _⟩ := run_append_own (P := Try.prog) W W.heap.size _ o.type 5 i0 (.int .u8 0) 1 1 byT.under hi hz0 hz1 hz2 byT.cells byT.pos (.slice .none 0 0) 0 [] (World.ownsRow_nil _ _ _ 1) ad m c2 (bv l) hsl.len (hsl.cell ad rfl) bv_cell (by unfold maxLen; omega) (by omega) (Nat.le_refl _)
          exact ⟨v', w', hr, h2, h3⟩
        · obtain ⟨v', w', hr, h2, h3⟩ := run_append_arg_grows (P := Try.prog) W _ o.type 5 i0 (.int .u8 0) 1 1 byT.under hi hz0 hz1 hz2 byT.cells byT.pos b xs.length xs.length (bv xs) hbs.len (hbs.cell b rfl) ad m c2 (bv l) hsl.len (hsl.cell ad rfl) (by omega) (by unfold maxLen; omega) (by omega)
          exact ⟨v', w', hr, h2, h3⟩
      obtain ⟨v', w', hr, h2, h3⟩ := key
      obtain ⟨ao', c', rfl, hsl'⟩ := h2.sl
      rw [← bv_append] at hsl'
      exact wpL_append hg s x ho hs hx hr (h ao' c' w' hsl' ((Keep.grown h3).mono fun x _ hv => by cases hv))
end
/-- Put onto a bag. -/
theorem put_bag (base : Nat) (v : Value) (xs : List UInt8) (n : Int) (w : World) (h : Bag w base v xs) (hb : base ≤ w.heap.size) (hmax : xs.length ≤ 140737488000000) (hn : n ≤ 9223372036854775807) :
    Calls Try.prog 27 #[v, .int .i64 n] w fun e w' => ∃ v', e = .returned v' ∧ Bag w' base v' (xs ++ Num.putI n) ∧ Same w w' := by
  obtain ⟨ao, c, rfl, hsl, _⟩ := h
  rcases Int.lt_or_le n 0 with h | h
  · refine (put_neg ao _ c n w h hsl.cap).mono ?_
    rintro e w' ⟨rfl, rfl⟩
    rw [Num.putI_neg h, List.append_nil]
    exact ⟨_, rfl, ⟨ao, _, rfl, ⟨hsl.len, Nat.le_refl _, Nat.le_trans hsl.cap hsl.most, fun h => by have := hsl.nil h; have := hsl.cap; omega, hsl.cell⟩, .inr rfl⟩, Same.refl⟩
  · obtain ⟨m, rfl⟩ := Int.eq_ofNat_of_zero_le h
    rw [Num.putI_nat]
    refine (put_nat ao _ c xs m w hsl hmax (by omega)).mono ?_
    rintro e w' ⟨v', rfl, ho, hs⟩
    exact ⟨v', rfl, Bag.own (ho.lower hb), hs⟩
end Go.Proofs.Yteokeidclgfgnaa
