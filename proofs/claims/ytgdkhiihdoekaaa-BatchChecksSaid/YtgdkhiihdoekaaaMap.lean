/-
  Maps that are looked into, written, struck from and counted: whatever the key's type and the elements are. Each element is told by its value as it stands.
-/
import Derived.Test.YtgdkhiihdoekaaaBase
import Derived.Maps.OwnSet
import Derived.DeepKeys4
namespace Go.Proofs.Ytgdkhiihdoekaaa
open Go Go.RowKit
set_option linter.unusedSimpArgs false
set_option linter.unusedVariables false

/-- Each element reads as itself. -/
def asIs (v : Value) : Option (DataW Value × List MemPlace) := some (.held v, [])
/-- Block b is a map of c entries (at most n), key by key as f tells. -/
def MapR (P : Program) (k : TypeId) (w : World) (b n c : Nat) (f : Lit → Option Value) : Prop :=
  ∃ D : DataW Value, w.ownsMap P k asIs b n D ∧ Maps.size D = c ∧ ∀ l, WideAt.IsKeyLit l → Maps.has D l = (f l).isSome ∧ ∀ z, D.atKey l z = match f l with | some v => .held v | none => z

noncomputable def setF (f : Lit → Option Value) (kl : Lit) (v : Option Value) : Lit → Option Value := fun l => @ite _ (l = kl) (Classical.propDecidable _) v (f l)
theorem setF_same (f : Lit → Option Value) (kl : Lit) (v : Option Value) : setF f kl v kl = v := by
  unfold setF
  rw [if_pos rfl]
theorem setF_other (f : Lit → Option Value) {kl l : Lit} (v : Option Value) (h : l ≠ kl) : setF f kl v l = f l := by
  unfold setF
  rw [if_neg h]
section
variable {P : Program} {k t e : TypeId} {w w' : World} {b n c : Nat} {f : Lit → Option Value} {key val z : Value} {kl : Lit}
theorem MapR.made (w : World) (P : Program) (k : TypeId) : MapR P k (w.alloc (.map #[] 0)) w.heap.size 0 0 (fun _ => none) :=
  ⟨_, World.ownsMap_made w P k asIs, rfl, fun _ _ => ⟨rfl, fun _ => rfl⟩⟩
theorem MapR.lt (h : MapR P k w b n c f) : b < w.heap.size := by
  obtain ⟨D, h1, _⟩ := h
  exact h1.lt
theorem MapR.block (h : MapR P k w b n c f) : ∃ es clock, w.heap[b]? = some (.map es clock) := by
  obtain ⟨D, ⟨es, clock, hb, _⟩, _⟩ := h
  exact ⟨es, clock, hb⟩
theorem MapR.count (h : MapR P k w b n c f) : c ≤ n := by
  obtain ⟨D, h1, h2, _⟩ := h
  rw [← h2]
  exact h1.size_le
theorem MapR.keep {p : Nat → Prop} (h : MapR P k w b n c f) (g : Keep p w w') (hp : ¬ p b) : MapR P k w' b n c f := by
  obtain ⟨D, ⟨es, clock, hb, r⟩, r2⟩ := h
  exact ⟨D, ⟨es, clock, (g.block b (Array.getElem?_eq_some_iff.1 hb).1 hp).trans hb, r⟩, r2⟩
theorem MapR.same (h : MapR P k w b n c f) (g : Same w w') : MapR P k w' b n c f := h.keep (Keep.of_same (p := fun _ => False) g) id
theorem MapR.mono (h : MapR P k w b n c f) {m : Nat} (hm : n ≤ m) : MapR P k w b m c f := by
  obtain ⟨D, h1, r⟩ := h
  exact ⟨D, h1.mono hm, r⟩
theorem MapR.congr (h : MapR P k w b n c f) {c' : Nat} {g : Lit → Option Value} (hc : c = c') (hg : ∀ l, f l = g l) : MapR P k w b n c' g := by
  obtain rfl : f = g := funext hg
  rw [← hc]
  exact h
theorem MapR.look (h : MapR P k w b n c f) (K : Maps.Keyed P k) (ht : P.underlying t = some (.map k e)) (hz : (zeroValue e).run P w = .ok z w) (hkey : keyOf P k key = some kl) :
    (Instr.lookup t (.map (some b)) key false).run P w = .ok ((f kl).getD z) w := by
  obtain ⟨D, h1, _, h3⟩ := h
  obtain ⟨v, ps, hr, hv⟩ := h1.lookup (zd := .held z) (zp := []) K ht hz rfl hkey
  rw [hr, (h3 kl (K.key hkey)).2] at *
  cases hf : f kl <;> rw [hf] at hv <;> simp only [asIs, Option.some.injEq, Prod.mk.injEq, DataW.held.injEq] at hv <;> rw [hv.1] <;> rfl
theorem MapR.lookOk (h : MapR P k w b n c f) (K : Maps.Keyed P k) (ht : P.underlying t = some (.map k e)) (hz : (zeroValue e).run P w = .ok z w) (hkey : keyOf P k key = some kl) :
    (Instr.lookup t (.map (some b)) key true).run P w = .ok (.tuple #[(f kl).getD z, .bool (f kl).isSome]) w := by
  obtain ⟨D, h1, _, h3⟩ := h
  obtain ⟨v, ps, hr, hv⟩ := h1.look_ok (zd := .held z) (zp := []) K ht hz rfl hkey
  rw [hr, (h3 kl (K.key hkey)).1]
  rw [(h3 kl (K.key hkey)).2] at hv
  cases hf : f kl <;> rw [hf] at hv <;> simp only [asIs, Option.some.injEq, Prod.mk.injEq, DataW.held.injEq] at hv <;> rw [hv.1] <;> rfl
theorem keep_turned (h : w.mapTurned w' b) : Keep (· = b) w w' := (Keep.grown h.grown).mono (fun x _ hx => by simpa using hx.symm)
theorem MapR.put (h : MapR P k w b n c f) (K : Maps.Keyed P k) (ht : P.underlying t = some (.map k e)) (hn : n < maxLen) (hkey : keyOf P k key = some kl) :
    ∃ w', (Instr.mapUpdate t (.map (some b)) key val).run P w = .ok () w' ∧ MapR P k w' b (n + 1) (if (f kl).isSome then c else c + 1) (setF f kl (some val)) ∧ Keep (· = b) w w' := by
  obtain ⟨D, h1, h2, h3⟩ := h
  obtain ⟨w', hr, h4, h5⟩ := h1.store (val := val) (d := .held val) (ps := []) K ht hn hkey rfl
  have hk := K.key hkey
  refine ⟨w', hr, ⟨_, h4, ?_, fun l hl => ?_⟩, keep_turned h5⟩
  · rw [Maps.size_put (h1.tidy K), (h3 kl hk).1, h2]
  · by_cases e : l = kl
    · subst e
      rw [setF_same]
      exact ⟨Maps.has_put_same h1.isMap hl _, fun z => Maps.atKey_put_same h1.isMap hl _ z⟩
    · rw [setF_other _ _ e, Maps.has_put_other e, (h3 l hl).1]
      exact ⟨rfl, fun z => by rw [Maps.atKey_put_other e]; exact (h3 l hl).2 z⟩
theorem MapR.drop (h : MapR P k w b n c f) (K : Maps.Keyed P k) (ht : P.underlying t = some (.map k e)) (hkey : keyOf P k key = some kl) (ty : TypeId) :
    ∃ w', (Builtin.delete_ #[t, k] ty #[.map (some b), key]).run P w = .ok (.tuple #[]) w' ∧ MapR P k w' b n (if (f kl).isSome then c - 1 else c) (setF f kl none) ∧ Keep (· = b) w w' := by
  obtain ⟨D, h1, h2, h3⟩ := h
  obtain ⟨w', hr, h4, h5⟩ := h1.drop K ht hkey ty
  have hk := K.key hkey
  refine ⟨w', hr, ⟨_, h4, ?_, fun l hl => ?_⟩, keep_turned h5⟩
  · have := Maps.size_del (k := kl) (h1.tidy K)
    rw [(h3 kl hk).1, h2] at this
    split at this <;> rename_i hi <;> simp only [hi, if_true, if_false, Bool.false_eq_true] <;> omega
  · by_cases e : l = kl
    · subst e
      rw [setF_same]
      exact ⟨Maps.has_del_same, fun z => Maps.atKey_del_same z⟩
    · rw [setF_other _ _ e, Maps.has_del_other e, (h3 l hl).1]
      exact ⟨rfl, fun z => by rw [Maps.atKey_del_other e]; exact (h3 l hl).2 z⟩
theorem MapR.len (h : MapR P k w b n c f) (ht : P.underlying t = some (.map k e)) (ty : TypeId) : (Builtin.len_ #[t] ty #[.map (some b)]).run P w = .ok (.int .i64 c) w := by
  obtain ⟨D, h1, h2, _⟩ := h
  rw [← h2]
  exact h1.len ht ty
end

section
variable {P : Program} {ops : Array Oper} {rest : List Oper} {o : Oper} {a : Act} {Q : Exit → Act → World → Prop} {w : World} {t k e : TypeId} {b n c : Nat} {f : Lit → Option Value} {key val z : Value} {kl : Lit}
/-- 'make(map[K]V)'. -/
theorem map_make (hg : Region.wanted o (yielded ops a.tmps) = true) (ho : o.op = .makeMap t none)
    (h : ∀ w', MapR P k w' w.heap.size 0 0 (fun _ => none) → Same w w' → w'.heap.size = w.heap.size + 1 → wpList P ops Q rest (a.put o.dst (.map (some w.heap.size))) w') : wpList P ops Q (o :: rest) a w := by
  refine wpL hg fun K hK => ?_
  unfold Oper.wp execOp
  simp only [ho, Option.map_none, Sem.run_bind, Sem.run_pure, Result.andThen_ok, run_makeMap]
  exact hK _ _ (h _ (MapR.made w P k) (Same.refl.alloc _) (by simp))
/-- 'm[k]'. -/
theorem map_look (hg : Region.wanted o (yielded ops a.tmps) = true) (m x : Operand) (ho : o.op = .lookup t m x false) (K : Maps.Keyed P k) (ht : P.underlying t = some (.map k e)) (hz : (zeroValue e).run P w = .ok z w)
    (hm : a.eval m = .map (some b)) (hM : MapR P k w b n c f) (hx : a.eval x = key) (hkey : keyOf P k key = some kl)
    (h : wpList P ops Q rest (a.put o.dst ((f kl).getD z)) w) : wpList P ops Q (o :: rest) a w := by
  refine wpL hg fun K' hK => ?_
  unfold Oper.wp execOp
  simp only [ho, hm, hx, Sem.run_bind, Sem.run_pure, Result.andThen_ok, hM.look K ht hz hkey]
  exact hK _ _ h
/-- 'v, ok := m[k]'. -/
theorem map_lookOk (hg : Region.wanted o (yielded ops a.tmps) = true) (m x : Operand) (ho : o.op = .lookup t m x true) (K : Maps.Keyed P k) (ht : P.underlying t = some (.map k e)) (hz : (zeroValue e).run P w = .ok z w)
    (hm : a.eval m = .map (some b)) (hM : MapR P k w b n c f) (hx : a.eval x = key) (hkey : keyOf P k key = some kl)
    (h : wpList P ops Q rest (a.put o.dst (.tuple #[(f kl).getD z, .bool (f kl).isSome])) w) : wpList P ops Q (o :: rest) a w := by
  refine wpL hg fun K' hK => ?_
  unfold Oper.wp execOp
  simp only [ho, hm, hx, Sem.run_bind, Sem.run_pure, Result.andThen_ok, hM.lookOk K ht hz hkey]
  exact hK _ _ h
/-- 'm[k] = v'. -/
theorem map_put (hg : Region.wanted o (yielded ops a.tmps) = true) (m x v : Operand) (ho : o.op = .mapUpdate t m x v) (K : Maps.Keyed P k) (ht : P.underlying t = some (.map k e))
    (hm : a.eval m = .map (some b)) (hM : MapR P k w b n c f) (hn : n < maxLen) (hx : a.eval x = key) (hv : a.eval v = val) (hkey : keyOf P k key = some kl)
    (h : ∀ w', MapR P k w' b (n + 1) (if (f kl).isSome then c else c + 1) (setF f kl (some val)) → Keep (· = b) w w' → wpList P ops Q rest (a.put o.dst undef) w') : wpList P ops Q (o :: rest) a w := by
  obtain ⟨w', hr, h1, h2⟩ := hM.put (val := val) K ht hn hkey
  refine wpL hg fun K' hK => ?_
  unfold Oper.wp execOp
  simp only [ho, hm, hx, hv, Sem.run_bind, Sem.run_pure, Result.andThen_ok, hr]
  exact hK _ _ (h w' h1 h2)
/-- 'delete(m, k)'. -/
theorem map_drop (hg : Region.wanted o (yielded ops a.tmps) = true) (m x : Operand) (ho : o.op = .call { callee := .builtin .delete, args := #[m, x], argTypes := #[t, k] }) (K : Maps.Keyed P k) (ht : P.underlying t = some (.map k e))
    (hm : a.eval m = .map (some b)) (hM : MapR P k w b n c f) (hx : a.eval x = key) (hkey : keyOf P k key = some kl)
    (h : ∀ w', MapR P k w' b n (if (f kl).isSome then c - 1 else c) (setF f kl none) → Keep (· = b) w w' → wpList P ops Q rest (a.put o.dst (.tuple #[])) w') : wpList P ops Q (o :: rest) a w := by
  obtain ⟨w', hr, h1, h2⟩ := hM.drop K ht hkey o.type
  refine wpL hg fun K' hK => ?_
  unfold Oper.wp execOp
  simp only [ho, resolve, invoke, builtin, hm, hx, List.map_toArray, List.map_cons, List.map_nil, Sem.run_bind, Sem.run_pure, Result.andThen_ok, hr]
  exact hK _ _ (h w' h1 h2)
/-- 'len(m)'. -/
theorem map_len (hg : Region.wanted o (yielded ops a.tmps) = true) (m : Operand) (ho : o.op = .call { callee := .builtin .len, args := #[m], argTypes := #[t] }) (ht : P.underlying t = some (.map k e))
    (hm : a.eval m = .map (some b)) (hM : MapR P k w b n c f)
    (h : wpList P ops Q rest (a.put o.dst (.int .i64 c)) w) : wpList P ops Q (o :: rest) a w := by
  refine wpL hg fun K' hK => ?_
  unfold Oper.wp execOp
  simp only [ho, resolve, invoke, builtin, hm, List.map_toArray, List.map_cons, List.map_nil, Sem.run_bind, Sem.run_pure, Result.andThen_ok, hM.len ht o.type]
  exact hK _ _ h
end
end Go.Proofs.Ytgdkhiihdoekaaa
