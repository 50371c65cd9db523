/-
  The words that all texts of this seat use: what a slice reads as, what a call leaves as it was, appends in the form that the walks use. No program in sight.
-/
import Derived.WalkKit
import Derived.Outline
import Derived.Deep.LoopGhost
import Derived.OwnWalk
import Derived.WalkSpells
import Derived.ArgAppend
import Derived.WalkLawsBesides
import Derived.Lib.Hide
import Derived.Lib.ConvBytes
import Derived.Laws.BytesString
import Derived.Laws.BytesArg
import Derived.Lib.AppendStr
import Derived.Maps.AppendAt
import Derived.Laws.AppendOwnNone
import Derived.KernelRfl
namespace Go.Proofs.Ytmacgmmjgdmleaa
open Go Go.RowKit
set_option linter.unusedSimpArgs false
set_option linter.unusedVariables false

/-- bytes as cells -/
def bv (l : List UInt8) : List Value := l.map fun b => .int .u8 (b.toNat : Int)
/-- whole numbers as cells -/
def iv (l : List Int) : List Value := l.map fun x => .int .i64 x
theorem bv_length (l : List UInt8) : (bv l).length = l.length := by simp [bv]
theorem iv_length (l : List Int) : (iv l).length = l.length := by simp [iv]
theorem bv_append (l m : List UInt8) : bv (l ++ m) = bv l ++ bv m := by simp [bv]
theorem iv_append (l m : List Int) : iv (l ++ m) = iv l ++ iv m := by simp [iv]
theorem bv_one (b : UInt8) : bv [b] = [.int .u8 (b.toNat : Int)] := rfl
theorem bv_nil : bv [] = [] := rfl
theorem iv_nil : iv [] = [] := rfl
theorem bv_cell {l : List UInt8} : ∀ u ∈ bv l, u.oneCell' = true := by
  intro u hu
  obtain ⟨b, _, rfl⟩ := List.mem_map.1 hu
  rfl
theorem iv_cell {l : List Int} : ∀ u ∈ iv l, u.oneCell' = true := by
  intro u hu
  obtain ⟨b, _, rfl⟩ := List.mem_map.1 hu
  rfl
theorem bv_get {l : List UInt8} {j : Nat} (h : j < l.length) : (bv l)[j]? = some (.int .u8 ((l[j]).toNat : Int)) := by
  simp [bv, h]
theorem iv_get {l : List Int} {j : Nat} (h : j < l.length) : (iv l)[j]? = some (.int .i64 (l[j])) := by
  simp [iv, h]
theorem bv_take (l : List UInt8) (k : Nat) : (bv l).take k = bv (l.take k) := by simp [bv, List.map_take]
theorem bv_drop (l : List UInt8) (k : Nat) : (bv l).drop k = bv (l.drop k) := by simp [bv, List.map_drop]
theorem iv_take (l : List Int) (k : Nat) : (iv l).take k = iv (l.take k) := by simp [iv, List.map_take]
theorem iv_drop (l : List Int) (k : Nat) : (iv l).drop k = iv (l.drop k) := by simp [iv, List.map_drop]

/-- The value (ao, n, c) is a slice of n elements of sz cells, which read as xs. -/
structure Sl (w : World) (sz : Nat) (ao : Option Addr) (n c : Nat) (xs : List Value) : Prop where
  len : xs.length = n * sz
  cap : n ≤ c
  most : c ≤ maxLen
  nil : ao = none → c = 0
  cell : ∀ b, ao = some b → ∀ j u, xs[j]? = some u → w.cell? (b.add j) = some u

/-- Blocks that were there, but for those of p, are as they were. -/
structure Keep (p : Nat → Prop) (w w' : World) : Prop where
  os : w'.os = w.os
  tape : w'.tape = w.tape
  output : w'.output = w.output
  size : w.heap.size ≤ w'.heap.size
  block : ∀ k, k < w.heap.size → ¬ p k → w'.heap[k]? = w.heap[k]?

/-- Nothing that was there has turned. -/
abbrev Same (w w' : World) : Prop := Below w.heap.size w w'

section
variable {w w' w2 : World} {p q : Nat → Prop} {sz n c : Nat} {ao : Option Addr} {xs : List Value}
theorem Keep.refl : Keep p w w := ⟨rfl, rfl, rfl, Nat.le_refl _, fun _ _ _ => rfl⟩
theorem Keep.trans (h : Keep p w w') (k : Keep q w' w2) (hq : ∀ x, x < w.heap.size → q x → p x) : Keep p w w2 :=
  ⟨k.os.trans h.os, k.tape.trans h.tape, k.output.trans h.output, Nat.le_trans h.size k.size, fun i hi hp => (k.block i (Nat.lt_of_lt_of_le hi h.size) (fun hx => hp (hq i hi hx))).trans (h.block i hi hp)⟩
theorem Keep.mono (h : Keep q w w') (hq : ∀ x, x < w.heap.size → q x → p x) : Keep p w w' := ⟨h.os, h.tape, h.output, h.size, fun i hi hp => h.block i hi (fun hx => hp (hq i hi hx))⟩
theorem Keep.of_same (h : Same w w') : Keep p w w' := ⟨h.os, h.tape, h.output, h.size, fun k hk _ => h.block k hk⟩
theorem Keep.same (h : Keep p w w') (hp : ∀ x, x < w.heap.size → ¬ p x) : Same w w' := ⟨h.os, h.tape, h.output, h.size, fun k hk => h.block k hk (hp k hk)⟩
theorem Keep.below {B : Nat} (h : Keep p w w') (hB : B ≤ w.heap.size) (hp : ∀ x, x < B → ¬ p x) : Below B w w' := ⟨h.os, h.tape, h.output, h.size, fun k hk => h.block k (by omega) (hp k hk)⟩
theorem Keep.cell (h : Keep p w w') {a : Addr} {v : Value} (hc : w.cell? a = some v) (hp : ¬ p a.block) : w'.cell? a = some v :=
  (World.cell?_of_block (h.block a.block (World.block_lt_of_cell? w a hc) hp)).trans hc
theorem Keep.grown {r : Option Nat} (h : w.grownBy w' r) : Keep (fun k => r = some k) w w' := ⟨h.os, h.tape, h.output, h.size, fun k hk hp => h.block k hk (fun e => hp e.symm)⟩
theorem Keep.alloc (o : Obj) : Keep p w (w.alloc o) := ⟨rfl, rfl, rfl, by simp, fun k hk _ => Below.heap_alloc w o k hk⟩
theorem Keep.drew : Keep p w w.drew := ⟨rfl, rfl, rfl, Nat.le_refl _, fun _ _ _ => rfl⟩
theorem Keep.setCell {a : Addr} (u : Value) (h : p a.block) : Keep p w (w.setCell a u) := ⟨rfl, rfl, rfl, by simp [World.setCell], fun k _ hk => Below.heap_setCell _ _ _ _ (fun e => hk (e ▸ h))⟩
theorem Same.refl : Same w w := Below.refl _ _
theorem Same.trans (h : Same w w') (k : Same w' w2) : Same w w2 := Below.trans h (k.mono h.size)
theorem Same.alloc (h : Same w w') (o : Obj) : Same w (w'.alloc o) := Below.alloc h h.size o
theorem Same.drew (h : Same w w') : Same w w'.drew := Below.drew h
theorem Same.drewN (h : Same w w') (k : Nat) : Same w (w'.drewN k) := ⟨h.os, h.tape, h.output, h.size, h.block⟩
theorem Same.setCell (h : Same w w') {a : Addr} (ha : w.heap.size ≤ a.block) (u : Value) : Same w (w'.setCell a u) := Below.setCell h ha u
theorem Same.keep (h : Same w w') (k : Keep p w' w2) (hp : ∀ x, x < w.heap.size → ¬ p x) : Same w w2 :=
  ⟨k.os.trans h.os, k.tape.trans h.tape, k.output.trans h.output, Nat.le_trans h.size k.size, fun i hi => (k.block i (Nat.lt_of_lt_of_le hi h.size) (hp i hi)).trans (h.block i hi)⟩
theorem Same.cell (h : Same w w') {a : Addr} {v : Value} (hc : w.cell? a = some v) : w'.cell? a = some v := (Keep.of_same (p := fun _ => False) h).cell hc id

theorem Sl.keep (h : Sl w sz ao n c xs) (k : Keep p w w') (hp : ∀ b, ao = some b → xs ≠ [] → ¬ p b.block) : Sl w' sz ao n c xs :=
  ⟨h.len, h.cap, h.most, h.nil, fun b hb j u hu => k.cell (h.cell b hb j u hu) (by
    have hx : xs ≠ [] := by rintro rfl; simp at hu
    have := hp b hb hx
    unfold Addr.add
    split <;> exact this)⟩
theorem Sl.same (h : Sl w sz ao n c xs) (k : Same w w') : Sl w' sz ao n c xs := h.keep (Keep.of_same (p := fun _ => False) k) (fun _ _ _ => id)
theorem Sl.none (w : World) (sz : Nat) : Sl w sz .none 0 0 [] := ⟨by simp, Nat.le_refl _, Nat.zero_le _, fun _ => rfl, fun _ h => by cases h⟩
theorem Sl.lt (h : Sl w sz ao n c xs) (hx : xs ≠ []) {b : Addr} (hb : ao = some b) : b.block < w.heap.size := by
  have hp : 0 < xs.length := List.length_pos_iff.2 hx
  have h1 := h.cell b hb 0 xs[0] (by simp [hp])
  have h2 := World.block_lt_of_cell? w _ h1
  simpa [Addr.add] using h2
/-- Of a slice that is not empty the address is there. -/
theorem Sl.addr (h : Sl w sz ao n c xs) (hn : 0 < n) : ∃ b, ao = some b := by
  rcases ao with _ | b
  · have h1 := h.nil rfl
    have h2 := h.cap
    omega
  · exact ⟨b, rfl⟩
/-- .. and it is an address of the plain form. -/
theorem Sl.at (h : Sl w sz ao n c xs) (hx : xs ≠ []) : ∃ bk off, ao = some ⟨bk, off, .none⟩ ∧ bk < w.heap.size ∧ ∀ j u, xs[j]? = some u → w.cell? ⟨bk, off + j, .none⟩ = some u := by
  have hp : 0 < xs.length := List.length_pos_iff.2 hx
  have hn : 0 < n := by
    rcases Nat.eq_zero_or_pos n with h0 | h0
    · have h1 := h.len
      rw [h0, Nat.zero_mul] at h1
      omega
    · exact h0
  obtain ⟨⟨bk, off, spot⟩, rfl⟩ := h.addr hn
  have h1 := h.cell _ rfl 0 xs[0] (by simp [hp])
  have h2 : spot = .none := by
    rcases spot with _ | s
    · rfl
    · simp [Addr.add, World.cell?] at h1
      split at h1 <;> simp at h1
  subst h2
  refine ⟨bk, off, rfl, by simpa [Addr.add] using World.block_lt_of_cell? w _ h1, fun j u hu => ?_⟩
  have h3 := h.cell _ rfl j u hu
  unfold Addr.add at h3
  split at h3
  · rename_i hj; subst hj; exact h3
  · exact h3
theorem Addr.add_add (b : Addr) (i j : Nat) : (b.add i).add j = b.add (i + j) := by
  unfold Addr.add
  split <;> split <;> split <;> first | rfl | omega | (simp_all; done) | (simp; omega)
theorem Sl.take {b : Addr} (h : Sl w sz (some b) n c xs) {k : Nat} (hk : k ≤ n) : Sl w sz (some b) k c (xs.take (k * sz)) :=
  ⟨by rw [List.length_take, h.len]; exact Nat.min_eq_left (Nat.mul_le_mul_right _ hk), Nat.le_trans hk h.cap, h.most, (fun e => by cases e), fun b' hb j u hu => by
    rw [List.getElem?_take] at hu
    split at hu
    · exact h.cell b' hb j u hu
    · cases hu⟩
theorem Sl.drop {b : Addr} (h : Sl w sz (some b) n c xs) {k : Nat} (hk : k ≤ n) : Sl w sz (some (b.add (k * sz))) (n - k) (c - k) (xs.drop (k * sz)) :=
  ⟨by rw [List.length_drop, h.len, Nat.sub_mul], by have := h.cap; omega, by have := h.most; omega, (fun e => by cases e), fun b' hb j u hu => by
    injection hb with hb
    subst hb
    rw [List.getElem?_drop] at hu
    rw [Addr.add_add]
    exact h.cell b rfl _ u hu⟩

/-- A row of the call's own, from block base on. -/
abbrev Own (w : World) (base : Nat) (e : TypeId) (sz : Nat) (v : Value) (n : Nat) (xs : List Value) : Prop := w.ownsRow base e sz v n xs
theorem Own.sl {base : Nat} {e : TypeId} {v : Value} (h : Own w base e sz v n xs) : ∃ ao c, v = .slice ao n c ∧ Sl w sz ao n c xs := by
  rcases h.2 with ⟨rfl, rfl⟩ | ⟨g, cap, cur, rfl, hb, hg, h1, h2, h3, h4⟩
  · exact ⟨.none, 0, rfl, h.1, Nat.le_refl _, Nat.zero_le _, fun _ => rfl, fun _ hb => by cases hb⟩
  · exact ⟨_, cap, rfl, h.1, h1, h2, (fun e => by cases e), fun b hb j u hu => by
      injection hb with hb
      subst hb
      exact World.ownsRow.cells h (g := g) rfl j u hu⟩
theorem Own.keep {base : Nat} {e : TypeId} {v : Value} (h : Own w base e sz v n xs) (k : Keep p w w') (hp : ∀ b, v.ownBlock = some b → ¬ p b) : Own w' base e sz v n xs := by
  refine ⟨h.1, ?_⟩
  rcases h.2 with hn | ⟨g, cap, cur, rfl, hb, hg, rest⟩
  · exact .inl hn
  · exact .inr ⟨g, cap, cur, rfl, hb, (k.block g (Array.getElem?_eq_some_iff.1 hg).1 (hp g rfl)).trans hg, rest⟩
theorem Own.same {base : Nat} {e : TypeId} {v : Value} (h : Own w base e sz v n xs) (k : Same w w') : Own w' base e sz v n xs := h.keep (Keep.of_same (p := fun _ => False) k) (fun _ _ => id)
theorem Own.lower {base base' : Nat} {e : TypeId} {v : Value} (h : Own w base e sz v n xs) (hb : base' ≤ base) : Own w base' e sz v n xs := by
  refine ⟨h.1, ?_⟩
  rcases h.2 with hn | ⟨g, cap, cur, rfl, hg, rest⟩
  · exact .inl hn
  · exact .inr ⟨g, cap, cur, rfl, Nat.le_trans hb hg, rest⟩
theorem Own.base {base : Nat} {e : TypeId} {v : Value} (h : Own w base e sz v n xs) : ∀ b, v.ownBlock = some b → base ≤ b := fun b hb => (World.ownsRow.lt h b hb).1
theorem Own.lt {base : Nat} {e : TypeId} {v : Value} (h : Own w base e sz v n xs) : ∀ b, v.ownBlock = some b → b < w.heap.size := fun b hb => (World.ownsRow.lt h b hb).2
theorem Own.empty (w : World) (e : TypeId) (sz : Nat) : Own (w.alloc (.cells #[] e)) w.heap.size e sz (.slice (some ⟨w.heap.size, 0, .none⟩) 0 0) 0 [] :=
  World.ownsRow_made w #[] 0 (Nat.le_refl _) (Nat.zero_le _) (by simp)
theorem Own.nil (w : World) (base : Nat) (e : TypeId) (sz : Nat) : Own w base e sz (.slice .none 0 0) 0 [] := World.ownsRow_nil w base e sz
end

section
variable {w : World} {b i T : Nat} {cs : Array Value} {v : Value}
theorem blk_cell (h : w.heap[b]? = some (.cells cs T (0, 0))) (i : Nat) : w.cell? ⟨b, i, .none⟩ = cs[i]? := by simp [World.cell?, h]
theorem blk_frozen (h : w.heap[b]? = some (.cells cs T (0, 0))) (i : Nat) : w.frozen? ⟨b, i, .none⟩ = false := by simp [World.frozen?, h]
theorem blk_set (h : w.heap[b]? = some (.cells cs T (0, 0))) : (w.setCell ⟨b, i, .none⟩ v).heap[b]? = some (.cells (cs.setIfInBounds i v) T (0, 0)) := by
  simp [World.setCell, Array.getElem?_modify, h]
theorem blk_lt {o : Obj} (h : w.heap[b]? = some o) : b < w.heap.size := (Array.getElem?_eq_some_iff.1 h).1
end

/-- The facts on a slice type: its element, the element's zero value, cells and bytes. -/
structure SlT (P : Program) (t e : TypeId) (z : Value) (sz by_ : Nat) : Prop where
  under : P.underlying t = some (.slice e)
  info : (P.info? e).map (fun i => (i.zero, i.size, i.bytes)) = some (some z, sz, by_)
  cells : z.cells.size = sz
  pos : 0 < sz

section
variable {P : Program} {ops : Array Oper} {rest : List Oper} {o : Oper} {a : Act} {Q : Exit → Act → World → Prop} {t u e : TypeId} {z : Value} {sz by_ : Nat}
theorem add0 (k j : Nat) : (⟨k, 0, none⟩ : Addr).add j = ⟨k, j, none⟩ := by unfold Addr.add; split <;> simp_all
theorem box_cells (W : World) (l : List Value) (e : TypeId) : ∀ j x, l[j]? = some x → (W.alloc (.cells l.toArray e)).cell? ((⟨W.heap.size, 0, none⟩ : Addr).add j) = some x := by
  intro j x hx
  rw [add0, cell_of_row _ _ j l.toArray e (0, 0) (heap_alloc_new W _)]
  simpa using hx
/-- An operation that is wanted (its guard, if any, holds). -/
theorem wpL {W : World} (hg : Region.wanted o (yielded ops a.tmps) = true) (h : ∀ K : Act → World → Prop, (∀ a w, wpList P ops Q rest a w → K a w) → o.wp P a W K Q) : wpList P ops Q (o :: rest) a W :=
  wpList_step fun K hK => by simp only [hg, if_true]; exact h K hK
theorem wpL_append {W w' : World} {v v' y : Value} (hg : Region.wanted o (yielded ops a.tmps) = true) (s x : Operand) (ho : o.op = .call { callee := .builtin .append, args := #[s, x], argTypes := #[t, u] })
    (hs : a.eval s = v) (hx : a.eval x = y) (hr : (Builtin.append_ #[t, u] o.type #[v, y]).run P W = .ok v' w') (h : wpList P ops Q rest (a.put o.dst v') w') : wpList P ops Q (o :: rest) a W := by
  refine wpL hg fun K hK => ?_
  unfold Oper.wp execOp
  simp only [ho, resolve, invoke, builtin, Sem.run_bind, Sem.run_pure, Result.andThen_ok, List.map_toArray, List.map_cons, List.map_nil, hs, hx, hr]
  exact hK _ _ h
/-- 'append(v, src...)', v a row of the call's own, src a slice that is read. -/
theorem append_sl {W : World} {base n : Nat} {v : Value} {xs l : List Value} {ao : Option Addr} {m c2 : Nat} (hg : Region.wanted o (yielded ops a.tmps) = true) (s x : Operand) (ho : o.op = .call { callee := .builtin .append, args := #[s, x], argTypes := #[t, t] })
    (hT : SlT P t e z sz by_) (hown : Own W base e sz v n xs) (hs : a.eval s = v) (hx : a.eval x = .slice ao m c2) (hsl : Sl W sz ao m c2 l)
    (h1 : ∀ u ∈ l, u.oneCell' = true) (hb : base ≤ W.heap.size) (hmax : (n + m) * by_ ≤ 140737488355328) (hm2 : n + m ≤ 140737488355328)
    (h : ∀ v' w', Own w' base e sz v' (n + m) (xs ++ l) → Keep (fun k => v.ownBlock = some k) W w' → (∀ k, v'.ownBlock = some k → v.ownBlock = some k ∨ W.heap.size = k) → wpList P ops Q rest (a.put o.dst v') w') :
    wpList P ops Q (o :: rest) a W := by
  obtain ⟨i0, hi, hz0, hz1, hz2⟩ := info_parts hT.info
  rcases ao with _ | ad
  · have hc := hsl.nil rfl
    have hm : m = 0 := by have := hsl.cap; omega
    subst hc
    subst hm
    obtain rfl : l = [] := List.eq_nil_of_length_eq_zero (by simpa using hsl.len)
    exact wpL_append hg s x ho hs hx (run_append_owned_none (P := P) (w := W) base t o.type e i0 sz hT.under hi v n xs hown) (h v W (by simpa using hown) Keep.refl (fun k hk => .inl hk))
  · obtain ⟨v', w', hr, h2, h3, h4, h5⟩ := run_append_own_at (P := P) W base t o.type e i0 z sz by_ hT.under hi hz0 hz1 hz2 hT.cells hT.pos v n xs hown ad m c2 l hsl.len (hsl.cell ad rfl) h1 (by unfold maxLen; omega) hmax hb
    refine wpL_append hg s x ho hs hx hr (h v' w' h2 (Keep.grown h3) ?_)
    intro k hk
    rcases h5 with h5 | h5
    · exact .inl (h5 ▸ hk)
    · rw [h5] at hk
      exact .inr (by simpa using hk)
/-- 'append(v, x)', v a row of the call's own, x an element in a box: behind the box. -/
theorem append_own {W : World} {base n : Nat} {v : Value} {xs l : List Value} {e2 : TypeId} {m c2 : Nat} (hg : Region.wanted o (yielded ops a.tmps) = true) (s x : Operand) (ho : o.op = .call { callee := .builtin .append, args := #[s, x], argTypes := #[t, t] })
    (hT : SlT P t e z sz by_) (hown : Own W base e sz v n xs) (hs : a.eval s = v) (hx : a.eval x = .slice (some ⟨W.heap.size, 0, none⟩) m c2)
    (hl : l.length = m * sz) (h1 : ∀ u ∈ l, u.oneCell' = true) (hb : base ≤ W.heap.size) (hmax : (n + m) * by_ ≤ 140737488355328) (hm2 : n + m ≤ 140737488355328)
    (h : ∀ v' w', Own w' base e sz v' (n + m) (xs ++ l) → Keep (fun k => v.ownBlock = some k) W w' → (∀ k, v'.ownBlock = some k → v.ownBlock = some k ∨ W.heap.size ≤ k) → wpList P ops Q rest (a.put o.dst v') w') :
    wpList P ops Q (o :: rest) a (W.alloc (.cells l.toArray e2)) := by
  obtain ⟨i0, hi, hz0, hz1, hz2⟩ := info_parts hT.info
  obtain ⟨v', w', hr, h2, h3, h4, h5⟩ := run_append_own_at (P := P) (W.alloc (.cells l.toArray e2)) base t o.type e i0 z sz by_ hT.under hi hz0 hz1 hz2 hT.cells hT.pos v n xs (hown.alloc _) ⟨W.heap.size, 0, none⟩ m c2 l hl (box_cells W l e2) h1 (by unfold maxLen; omega) hmax (by simp; omega)
  refine wpL_append hg s x ho hs hx hr (h v' w' h2 ((Keep.alloc _).trans (Keep.grown h3) (fun _ _ h => h)) ?_)
  intro k hk
  rcases h5 with h5 | h5
  · exact .inl (h5 ▸ hk)
  · rw [h5] at hk
    simp at hk
    exact .inr (by omega)
/-- 'append(v, s...)', s a string. -/
theorem append_str {W : World} {base n : Nat} {v : Value} {xs : List Value} {str : ByteArray} (hg : Region.wanted o (yielded ops a.tmps) = true) (s x : Operand) (ho : o.op = .call { callee := .builtin .append, args := #[s, x], argTypes := #[t, u] })
    (hT : SlT P t e (.int .u8 0) 1 1) (hu : P.underlying u = some .string) (hown : Own W base e 1 v n xs) (hs : a.eval s = v) (hx : a.eval x = .string str)
    (hb : base ≤ W.heap.size) (hmax : n + str.size ≤ 140737488355328)
    (h : ∀ v' w', Own w' base e 1 v' (n + str.size) (xs ++ bv str.data.toList) → Keep (fun k => v.ownBlock = some k) W w' → wpList P ops Q rest (a.put o.dst v') w') :
    wpList P ops Q (o :: rest) a W := by
  obtain ⟨i0, hi, hz0, hz1, hz2⟩ := info_parts hT.info
  obtain ⟨v', w', hr, h2, h3, _⟩ := Lib.run_append_own_string (P := P) W base t u o.type e i0 hT.under hu hi hz0 hz1 hz2 v n xs hown str (by unfold maxLen; omega) hmax hb
  exact wpL_append hg s x ho hs hx hr (h v' w' h2 (Keep.grown h3))
/-- 'append(b, x..)', b full, whoever's it is: a new row. -/
theorem append_full {W : World} {ao : Option Addr} {n m c2 : Nat} {xs l : List Value} {e2 : TypeId} (hg : Region.wanted o (yielded ops a.tmps) = true) (s x : Operand) (ho : o.op = .call { callee := .builtin .append, args := #[s, x], argTypes := #[t, t] })
    (hT : SlT P t e z sz by_) (hsl : Sl W sz ao n n xs) (hs : a.eval s = .slice ao n n) (hx : a.eval x = .slice (some ⟨W.heap.size, 0, none⟩) m c2)
    (hl : l.length = m * sz) (hm : 0 < m) (h1 : ∀ u ∈ l, u.oneCell' = true) (hmax : (n + m) * by_ ≤ 140737488355328) (hm2 : n + m ≤ 140737488355328)
    (h : ∀ v' w', Own w' (W.heap.size + 1) e sz v' (n + m) (xs ++ l) → Same W w' → wpList P ops Q rest (a.put o.dst v') w') :
    wpList P ops Q (o :: rest) a (W.alloc (.cells l.toArray e2)) := by
  obtain ⟨i0, hi, hz0, hz1, hz2⟩ := info_parts hT.info
  have hsl2 : Sl (W.alloc (.cells l.toArray e2)) sz ao n n xs := hsl.same (Same.alloc Same.refl _)
  have key : ∃ v' w', (Builtin.append_ #[t, t] o.type #[.slice ao n n, .slice (some ⟨W.heap.size, 0, .none⟩) m c2]).run P (W.alloc (.cells l.toArray e2)) = .ok v' w' ∧ Own w' (W.heap.size + 1) e sz v' (n + m) (xs ++ l) ∧ (W.alloc (.cells l.toArray e2)).grownBy w' .none := by
    rcases ao with _ | b
    · have h0 := hsl.nil rfl
      subst h0
      obtain rfl : xs = [] := List.eq_nil_of_length_eq_zero (by simpa using hsl.len)
      obtain ⟨v', w', hr, h2, h3, _⟩ := run_append_own (P := P) (W.alloc (.cells l.toArray e2)) (W.heap.size + 1) t o.type e i0 z sz by_ hT.under hi hz0 hz1 hz2 hT.cells hT.pos (.slice .none 0 0) 0 [] (World.ownsRow_nil _ _ e sz) ⟨W.heap.size, 0, .none⟩ m c2 l hl (box_cells W l e2) h1 (by unfold maxLen; omega) hmax (by simp)
      exact ⟨v', w', hr, h2, h3⟩
    · obtain ⟨v', w', hr, h2, h3⟩ := run_append_arg_grows (P := P) (W.alloc (.cells l.toArray e2)) t o.type e i0 z sz by_ hT.under hi hz0 hz1 hz2 hT.cells hT.pos b n n xs hsl2.len (hsl2.cell b rfl) ⟨W.heap.size, 0, .none⟩ m c2 l hl (box_cells W l e2) (by omega) (by unfold maxLen; omega) hmax
      exact ⟨v', w', hr, by simpa using h2, h3⟩
  obtain ⟨v', w', hr, h2, h3⟩ := key
  refine wpL_append hg s x ho hs hx hr (h v' w' h2 ?_)
  exact (Same.alloc Same.refl _).trans ((Keep.grown h3).same (fun k _ => by simp))
/-- 'make([]T, 0, n)'. -/
theorem make_cap {W : World} (hg : Region.wanted o (yielded ops a.tmps) = true) (l c : Operand) (ho : o.op = Op.makeSlice t l c) (hT : SlT P t e z sz by_)
    (kl kc : IntKind) (C : Int) (n : Nat) (hl : a.eval l = .int kl 0) (hc : a.eval c = .int kc C) (hC : C = (n : Int)) (b2 : by_ * n ≤ 281474976710656) (b3 : n ≤ 281474976710656)
    (h : ∀ w', Own w' W.heap.size e sz (.slice (some ⟨W.heap.size, 0, .none⟩) 0 n) 0 [] → Same W w' → w'.heap.size = W.heap.size + 1 → wpList P ops Q rest (a.put o.dst (.slice (some ⟨W.heap.size, 0, .none⟩) 0 n)) w') :
    wpList P ops Q (o :: rest) a W := by
  obtain ⟨i0, hi, hz0, hz1, hz2⟩ := info_parts hT.info
  have hrun := run_make (P := P) W t e i0 z hT.under hi hz0 kl kc 0 n (by omega) (by omega) (by rw [hz2, ← Int.natCast_mul]; omega) (by omega)
  refine wpL hg fun K hK => ?_
  subst hC
  unfold Oper.wp
  simp only [execOp, ho, hl, hc, Sem.run_bind, Sem.run_pure, Result.andThen_ok, hrun]
  refine hK _ _ (h _ ?_ (Same.alloc Same.refl _) (by simp))
  refine World.ownsRow_made W _ n (Nat.le_refl _) (by unfold maxLen; omega) ?_
  simp [size_madeCells, hz1]
/-- 'make([]T, n)'. -/
theorem make_full {W : World} (hg : Region.wanted o (yielded ops a.tmps) = true) (l c : Operand) (ho : o.op = Op.makeSlice t l c) (hT : SlT P t e z sz by_)
    (kl kc : IntKind) (L C : Int) (n : Nat) (hl : a.eval l = .int kl L) (hc : a.eval c = .int kc C) (hL : L = (n : Int)) (hC : C = (n : Int)) (b2 : by_ * n ≤ 281474976710656) (b3 : n ≤ 281474976710656)
    (h : ∀ w', Own w' W.heap.size e sz (.slice (some ⟨W.heap.size, 0, .none⟩) n n) n (madeCells z.cells (n * sz)).toList → Same W w' → w'.heap.size = W.heap.size + 1 → wpList P ops Q rest (a.put o.dst (.slice (some ⟨W.heap.size, 0, .none⟩) n n)) w') :
    wpList P ops Q (o :: rest) a W := by
  obtain ⟨i0, hi, hz0, hz1, hz2⟩ := info_parts hT.info
  have hrun := run_make (P := P) W t e i0 z hT.under hi hz0 kl kc n n (by omega) (by omega) (by rw [hz2, ← Int.natCast_mul]; omega) (by omega)
  refine wpL hg fun K hK => ?_
  subst hL
  subst hC
  unfold Oper.wp
  simp only [execOp, ho, hl, hc, Sem.run_bind, Sem.run_pure, Result.andThen_ok, hrun]
  refine hK _ _ (h _ ?_ (Same.alloc Same.refl _) (by simp))
  rw [Int.toNat_natCast, hz1]
  refine ⟨by simp [size_madeCells], .inr ⟨W.heap.size, n, _, rfl, Nat.le_refl _, heap_alloc_new W _, Nat.le_refl _, (by unfold maxLen; omega), by simp [size_madeCells], ?_⟩⟩
  rw [List.take_of_length_le]
  simp [size_madeCells]
/-- 'string(b)'. -/
theorem conv_string {W : World} {ao : Option Addr} {n c : Nat} {l : List UInt8} {src dst : TypeId} (hg : Region.wanted o (yielded ops a.tmps) = true) (x : Operand) (ho : o.op = .convert src dst x)
    (hT : SlT P src e (.int .u8 0) 1 1) (he : P.underlying e = some (.int .u8)) (hd : P.underlying dst = some .string) (hx : a.eval x = .slice ao n c) (hsl : Sl W 1 ao n c (bv l))
    (h : wpList P ops Q rest (a.put o.dst (.string ⟨l.toArray⟩)) W) : wpList P ops Q (o :: rest) a W := by
  have hrun : (convert src dst (.slice ao n c)).run P W = .ok (.string ⟨l.toArray⟩) W := by
    rw [run_convert_bytes_string W src dst e _ n c hT.under he hd]
    rcases ao with _ | ad
    · have hc := hsl.nil rfl
      have hn : n = 0 := by have := hsl.cap; omega
      obtain rfl : l = [] := by
        have := hsl.len
        rw [bv_length] at this
        exact List.eq_nil_of_length_eq_zero (by omega)
      simp [Conv.bytesToString, ByteArray.empty, ByteArray.emptyWithCapacity]
      rfl
    · have hl : (loadCells ad n).run P W = .ok ((l.map fun b => (b.toNat : Int)).map (Value.int .u8)).toArray W := by
        have := run_loadCells_list (P := P) W ad (bv l) (hsl.cell ad rfl)
        have e1 : n = (bv l).length := by have := hsl.len; omega
        rw [e1]
        simpa [bv, Function.comp_def] using this
      rw [run_bytesToString W ad n c _ hl, foldl_push_bytes]
      simp [ByteArray.empty, ByteArray.emptyWithCapacity, Function.comp_def]
      rfl
  refine wpL hg fun K hK => ?_
  unfold Oper.wp execOp
  simp only [ho, Sem.run_bind, Sem.run_pure, Result.andThen_ok, hx, hrun]
  exact hK _ _ h
/-- 's[k:]'. -/
theorem slice_from {W : World} {ao : Option Addr} {n c : Nat} {xs : List Value} (hg : Region.wanted o (yielded ops a.tmps) = true) (x low : Operand) (ho : o.op = .slice t x (some low) none none)
    (hT : SlT P t e z sz by_) (hx : a.eval x = .slice ao n c) (kl : IntKind) (L : Int) (k : Nat) (hl : a.eval low = .int kl L) (hL : L = (k : Int)) (hk : k ≤ n) (hsl : Sl W sz ao n c xs)
    (h : ∀ ao', Sl W sz ao' (n - k) (c - k) (xs.drop (k * sz)) → (∀ b', ao' = some b' → ∃ b, ao = some b ∧ b'.block = b.block) → wpList P ops Q rest (a.put o.dst (.slice ao' (n - k) (c - k))) W) : wpList P ops Q (o :: rest) a W := by
  obtain ⟨i0, hi, hz0, hz1, hz2⟩ := info_parts hT.info
  subst hL
  have hrun : (Instr.sliceAt t (.slice ao n c) (some (.int kl (k : Int))) none none).run P W = .ok (.slice (if c = k then ao else ao.map (·.add (k * sz))) (n - k) (c - k)) W := by
    have he : P.elem t = e := by simp [Program.elem, hT.under]
    have ht : P.underlying t = some (.slice (P.elem t)) := by rw [he]; exact hT.under
    rw [run_sliceAt_slice W _ _ _ _ _ ht, run_slice_l W _ _ _ _ ht _ _ (by omega) (by omega), he]
    simp [sizeOf, typeInfo, hi, hz1, Result.andThen, sliced]
  have hcap := hsl.cap
  refine wpL hg fun K hK => ?_
  unfold Oper.wp execOp
  simp only [ho, hx, hl, Option.map_some, Option.map_none, Sem.run_bind, Sem.run_pure, Result.andThen_ok, hrun]
  refine hK _ _ (h _ ?_ ?_)
  · by_cases hc : c = k
    · rw [if_pos hc]
      have hn : n = k := by omega
      have e : xs.drop (k * sz) = [] := List.drop_of_length_le (by rw [hsl.len, hn]; exact Nat.le_refl _)
      rw [e, hn, Nat.sub_self]
      exact ⟨by simp, by omega, by have := hsl.most; omega, fun hz => by omega, fun b _ j u hu => by simp at hu⟩
    · rw [if_neg hc]
      rcases ao with _ | b
      · have := hsl.nil rfl
        omega
      · exact hsl.drop hk
  · intro b' hb'
    by_cases hc : c = k
    · rw [if_pos hc] at hb'
      exact ⟨b', hb', rfl⟩
    · rw [if_neg hc] at hb'
      rcases ao with _ | b
      · cases hb'
      · simp only [Option.map_some, Option.some.injEq] at hb'
        subst hb'
        exact ⟨b, rfl, by unfold Addr.add; split <;> rfl⟩
end
end Go.Proofs.Ytmacgmmjgdmleaa
